/- A part of the proof. -/
import Derived.Test.YtnigblndonocfaaGreatDoorPDa
set_option linter.unusedVariables false
set_option linter.unusedSimpArgs false
namespace Go.Proofs.YtnigblndonocfaaGreatDoor
set_option maxRecDepth 100000
set_option maxHeartbeats 6400000
open Go.Proofs.Tryz
open Go.RowKit Go.BigFrame
section
section
variable {B:World} {q:Nat} {A:Option Addr} {c:Nat} {L:List Tk} {en:Int} {eA:Option Addr} {ec:Nat} {el:List iW} {w w0 w1:World} {i:Nat}
def mI (y:sO):List Value:=[.string y.name,.int .i64 y.t,.int .i64 y.tag]
structure uf (w:World) (y:sO):Prop where
 nm:y.name.size<=65536
 tb:y.t<=2000
theorem lY:pH uf:=⟨fun W W' y hb h=>⟨h.nm,h.tb⟩,fun W w y k h=>⟨h.nm,h.tb⟩⟩
theorem Jp:(prog.info? 178).map (fun i=>(i.zero,i.size,i.bytes))=some (some (.agg #[.string ⟨#[]⟩,.int .i64 0,.int .i64 0]),3,32):=by kernel_rfl
def Cn (el:List iW):Nat->List sO->List Tk->Option (List sO×List Tk)
 |0,_,_=>none
 |m+1,l,ts=>(mD el ts).bind fun (o,r)=>pX el m (l++[o]) r
theorem EI (el:List iW) (m:Nat) (l:List sO) (ts:List Tk):pX el m l ts=if jq ⟨#[119,104,101,110]⟩ ts then Cn el m l ts.tail else some (l,ts):=by
 cases m with
 |zero=>rw[pX];rfl
 |succ m=>rw[pX];rfl
theorem xE:∀{l:List ByteArray} {ts r:List Tk} {u:Unit},iF l ts=some (u,r)->ts.length=r.length+l.length
 |[],ts,r,u,h=>by
  injection h with h
  injection h with h1 h2
  rw[h2];rfl
 |s::l,ts,r,u,h=>by
  rw[iF]at h;by_cases hc:jq s ts=true
  ·rw[iG hc]at h
   have h1:=xE h;have h2:=lT hc;rw[py];omega
  rw[iV hc]at h;cases h
theorem Kd {s:ByteArray}:∀{l:List iW} {k j:Nat},uv s l k=some j->k<=j/\j<k+l.length
 |[],k,j,h=>by cases h
 |u::l,k,j,h=>by
  rw[uv]at h;by_cases hc:u.name=s
  ·rw[iG hc]at h
   injection h with h
   rw[py];omega
  rw[iV hc]at h;have:=Kd h;rw[py];omega
theorem zp {ts r:List Tk} {o:sO} (htag:∀u∈el,u.tags.l.length<=16) (hel:el.length<=1000) (h:mD el ts=some (o,r)):o.t<=2000/\ts.length≥r.length+1:=by
 unfold mD at h;cases h1:l_ el ts with
 |none=>rw[h1]at h;cases h
 |some p=>
 obtain⟨⟨t,v⟩,J⟩:=p;rw[h1]at h;have hs:=vu htag h1;have hl:=rW h1;simp only[Option.bind_some]at h;cases h2:iF [⟨#[40]⟩] J with
 |none=>rw[h2]at h;cases h
 |some p=>
 obtain⟨_,I⟩:=p;rw[h2]at h;simp only[Option.bind_some]at h;cases h3:pV I with
 |none=>rw[h3]at h;cases h
 |some p=>
 obtain⟨s,j⟩:=p;rw[h3]at h;simp only[Option.bind_some]at h;cases h4:iF [⟨#[41]⟩] j with
 |none=>rw[h4]at h;cases h
 |some p=>
 obtain⟨_,R⟩:=p;rw[h4]at h;simp only[Option.bind_some]at h;injection h with h
 injection h with ha hb
 subst ha;have m1:=xE h2;have m2:=mm h3;have U:=xE h4;subst hb;exact⟨by show t<=2000;omega,by omega⟩
theorem GI (htag:∀u∈el,u.tags.l.length<=16) (hel:el.length<=1000) (h:Rd B q A c L en eA ec el w i):Calls prog 115 #[.pointer (some q)] w (pk B q A c L en eA ec el w i (wG el (L.drop i)) (VG CJ SF iO.er w.heap.size)):=by
 obtain⟨X,hX⟩:=jt (wG el (L.drop i));rw[hX];obtain⟨i0,cw⟩:=jt (i);rw[cw]at hX h⊢;clear cw;have J:=iy hX.symm;have cC:Hid (i0<=i0):=js _;clear hX;have hq:=h.blk.lt;have cL:=h.base;obtain⟨r,hr⟩:=jt (w.heap.size);have bh:r≠q:=by omega
 have cX:q<r:=by omega
 obtain⟨w0,cG,aw0,B0,R0,s0⟩:=Ls h hr bh #[.string ⟨#[]⟩,.int .i64 0,.slice none 0 0] 77;have HB:=iy B0;have a0:ik (iz q w0) (iz q w0):=iq _;have cR:q<w0.heap.size:=iu;have cS:B.heap.size<=w0.heap.size:=iu;clear h B0;go_in;go_wp2_with fail;try rw[hr]
 try rw[cG]
 have J:Hid (X=(pV (L.drop i0)).bind fun (s,r)=>(iF [⟨#[58]⟩] r).bind fun (_,r)=>(Ma el r).bind fun (t,r)=>(pX el 4 [] r).bind fun (l,r)=>some (⟨s,t,l⟩,r)):=J.out;go_wp2_with fail;refine td (qb R0.out) J a0 cC ?_;clear J;intro w1 x1 v1 i1 cJ R1 J cB da dc a1;obtain⟨rfl,c8⟩:=cJ;obtain⟨s,hs⟩:=jt (x1);rw[hs]at J c8⊢;clear hs;have hS:=iy c8;clear c8;obtain⟨ra,c9⟩:=jt (w1.heap.size);have db:r<ra:=by have:=lZ a1;omega
 have a':ra≠q:=iu;have cT:w0.heap.size<=ra:=by have:=lZ a1;omega
 obtain⟨w2,cr,ai,R2,a2,s2⟩:∃z,w1.alloc (.cells #[s,.int .i64 0,.slice none 0 0] 77)=z/\Hid (iP z ra 77 #[s,.int .i64 0,.slice none 0 0])/\Hid (Rd B q A c L en eA ec el z i1)/\ik (iz q w0) (iz q z)/\Hid (ra+1=z.heap.size):=⟨_,rfl,by rw[<- c9];exact jC ..,R1.out.after iR,ij a1 (im iR),by (show _=_;rw[iH,c9])⟩;have cq:=iy cr;clear cr R1;have cA:=cB;have J:Hid (X=(iF [⟨#[58]⟩] (L.drop i1)).bind fun (_,r)=>(Ma el r).bind fun (t,r)=>(pX el 4 [] r).bind fun (l,r)=>some (⟨s,t,l⟩,r)):=J.out;go_wp2_with fail;try rw[c9]
 try rw[cq.out]
 try rw[s2.out]
 go_wp2_with fail;refine td (jH R2.out [⟨#[58]⟩] iI) J a2 cA ?_;clear J;intro w3 x3 v3 i3 cI R3 J cz d' cO a3;subst cI;replace ai:Hid (iP w3 ra 77 #[s,.int .i64 0,.slice none 0 0]):=iy (kq ai.out a' cO);have J:Hid (X=if jq ⟨#[98,111,111,108]⟩ (L.drop i3) then (pX el 4 [] (L.drop i3).tail).bind fun (l,r)=>some (⟨s,1,l⟩,r) else if jq ⟨#[105,110,116]⟩ (L.drop i3) then (pX el 4 [] (L.drop i3).tail).bind fun (l,r)=>some (⟨s,2,l⟩,r) else (pV (L.drop i3)).bind fun (u,r)=>(match uv u el 0 with | some j=>some (3+(j:Int),r) | none=>none).bind fun (t,r)=>(pX el 4 [] r).bind fun (l,r)=>some (⟨s,t,l⟩,r)):=by
  have h9:X=(Ma el (L.drop i3)).bind fun (t,r)=>(pX el 4 [] r).bind fun (l,r)=>some (⟨s,t,l⟩,r):=J.out
  show _=_
  rw[h9];unfold Ma;by_cases h1:jq ⟨#[98,111,111,108]⟩ (L.drop i3)=true
  ·rw[iG h1,iG h1];rfl
  rw[iV h1,iV h1];by_cases h2:jq ⟨#[105,110,116]⟩ (L.drop i3)=true
  ·rw[iG h2,iG h2];rfl
  rw[iV h2,iV h2];cases pV (L.drop i3) with
  |none=>rfl
  |some p=>rfl
 go_wp2_with fail;refine Dx ⟨#[98,111,111,108]⟩ R3.out J a3 cz ?_ ?_
 ·clear J;intro w4 R4 J ca a4 c4
  replace ai:=iy (kq ai.out a' ca);go_wp2_with fail;refine Dx ⟨#[105,110,116]⟩ R4.out J a4 c4 ?_ ?_
  ·clear J;intro w5 R5 J c' a5 bz
   replace ai:=iy (kq ai.out a' c');go_wp2_with fail;refine BC (qb R5.out) J a5 bz ?_;clear J;intro w6 x6 v6 i6 cM cH R6 J c2 d_ cN a6;obtain⟨rfl,cW⟩:=cH;replace ai:Hid (iP w6 ra 77 #[s,.int .i64 0,.slice none 0 0]):=iy (kq ai.out a' cN);obtain⟨tn,cu⟩:=jt (x6);rw[cu]at J⊢;clear cu;obtain⟨b4,c_⟩:∃g,w6.heap.size=g:=⟨_,rfl⟩;obtain⟨bs,cp,cE,cD,bV,cP,cx⟩:∃z,w6.alloc (.cells #[tn] 9)=z/\z.cell? b4=some (.string tn)/\Le (b4+1) z/\Hid (Rd B q A c L en eA ec el z i6)/\ik (iz q w0) (iz q z)/\ik (iz q w6) (iz q z):=⟨_,rfl,by rw[<- c_];exact ((jC w6 9 #[tn]).cell 0).trans rfl,by rw[<- c_];exact (jC w6 9 #[tn]).is_le,R6.out.after inferInstance,ij a6 (im inferInstance),im inferInstance⟩;replace ai:Hid (iP bs ra 77 #[s,.int .i64 0,.slice none 0 0]):=iB (kq ai.out a' cx);have HC:Hid (Calls prog 149 #[.slice eA el.length ec,.func (.func 150) #[] #[.pointer (some b4)]] bs fun e w'=>e=.returned (.int .i64 (FW (qw tn) el 0))/\∃y,w'=bs.more y):=QM (w0:=bs) cE cD bV.out.enums bs (iq _);obtain⟨c0,c1,b0,c3,f2,l0⟩:=bV.out.fields;have bH:=bV.out.few;have bb:=J6 tn el 0;generalize FW (qw tn) el 0=ix at HC bb;have J:Hid (X=(match uv tn el 0 with | some j=>some (3+(j:Int),L.drop i6) | none=>none:Option (Int×List Tk)).bind fun (t,r)=>(pX el 4 [] r).bind fun (l,r)=>some (⟨s,t,l⟩,r)):=J.out;have cv:∀j,uv tn el 0=some j->j<el.length:=fun j hj=>by have:=Kd hj;omega
   generalize uv tn el 0=O at bb J cv;go_wp2_with fail;try rw[c_]
   try rw[cp]
   refine HC.out.mono ?_;clear HC;rintro e w21 ⟨rfl,y_,cl⟩;have aN:ik bs w21:=ny ⟨y_,cl⟩ inferInstance;clear cl;have bQ:=iy (bV.out.after aN);have cy:=ij cP (im (q:=q) aN);have ck:=c2;replace ai:=iy (lM ((BR ai.out a').after (k:=(im (q:=q) aN))) a');clear c0 c1 b0 c3 f2 l0;obtain⟨c0,c1,b0,c3,f2,l0⟩:=bQ.out.fields;cases O with
   |none=>
    have bb:ix=-1:=bb;subst bb;have bq:Hid (X=none):=J.out;have cK:(0:Int)<=(i6:Int)-1:=by have h1:=mm cM;rw[nY,nY]at h1;have:=bQ.out.le;omega
    have HF:=iy (nj bQ.out ((i6:Int)-1) cK 6);have cY:=bQ.out.le;go_wp2_with fail;refine HF.out.mono ?_;rintro e bS ⟨⟨a,rfl⟩,cb⟩;unfold oD;go_wp2;exact⟨rfl,kf bq.out (ij (im aw0) (ij cy (im cb))) (jz a 6 iI)⟩
   |some j=>
   have bb:ix=(j:Int):=bb;subst bb;have hj:=cv j rfl;have J:Hid (X=(pX el 4 [] (L.drop i6)).bind fun (l,r)=>some (⟨s,3+(j:Int),l⟩,r)):=J.out;have cZ:¬((j:Int)<0):=iu;clear c0 c1 b0 c3 f2 l0;have a_:iP w21 ra 77 #[s,.int .i64 0,.slice none 0 0]:=ai.out;obtain⟨m0,m1,m2⟩:=rT a_;have ml:=jo a_;obtain⟨an,al,ak⟩:=tK a_;obtain⟨bS,bZ,cQ,cb,aD⟩:∃z,w21.setCell ⟨ra,1,none⟩ (.int .i64 (3+(j:Int)))=z/\Hid (Rd B q A c L en eA ec el z i6)/\ik (iz q w0) (iz q z)/\iP z ra 77 #[s,.int .i64 (3+(j:Int)),.slice none 0 0]:=⟨_,rfl,bQ.out.set a' iu 1 _,iJ (k:=⟨by rw[iZ];omega⟩) (h:=cy) _ _,a_.jx 1 _⟩;have cj:=ck;go_wp2_with fail;try rw[bZ]
   clear bZ m0 m1 m2 ml an al ak a_ ai;obtain⟨ty,aO⟩:∃t:Int,(3+(j:Int))=t:=⟨_,rfl⟩;have bE:ty<=2000:=iu;obtain⟨n1,b3⟩:=jt (bS.heap.size);have bx:ra<n1:=by have:=aD.lt;omega
   have a7:q<n1:=iu;have ch:w0.heap.size<=n1:=iu;obtain⟨v0,aL⟩:=jt (Value.slice none 0 0);obtain⟨aq,aB⟩:∃y:List sO,y=[]:=⟨_,rfl⟩;rw[aO,aL]at aD;have RB:=iy aD;have OL:Hid (kZ n1 178 3 mI uf (fun b=>decide (b<n1)) bS v0 aq):=by (show kZ n1 178 3 mI uf (fun b=>decide (b<n1)) bS v0 aq;rw[<- aL,aB];exact vZ)
   have J:Hid (X=(pX el 4 aq (L.drop i6)).bind fun (l,r)=>some (⟨s,ty,l⟩,r)):=by (show _=_;rw[aB,<- aO];exact J.out)
   have ar:Hid (aq.length+4=4):=by (show _=_;rw[aB];rfl)
   clear aD aO aL aB;have b2:=lI b3.symm;go_loopw [] (fun wr=>∃(i' m:Nat) (v:Value) (I:List sO),Hid (i0<=i')/\Hid (I.length+m=4)/\Hid (X=(pX el m I (L.drop i')).bind fun (l,r)=>some (⟨s,ty,l⟩,r))/\Hid (Rd B q A c L en eA ec el wr i')/\ik (iz q w0) (iz q wr)/\n1<=wr.heap.size/\Hid (iP wr ra 77 #[s,ty,v])/\Hid (kZ n1 178 3 mI uf (fun b=>decide (b<n1)) wr v I)) (fun wr=>L.length-lO wr q 2)
   case atStart=>exact⟨i6,4,v0,aq,cj,ar,J,cQ,cb,b2,RB,OL⟩
   case round=>
   clear J RB OL ar b2 b3;obtain⟨i2,m,v,I,aE,ae,J,aX,bN,R,RB,OL⟩:=hrel;have d1:=iy (je aX.out.fields.2.2.1);have J:Hid (X=(if jq ⟨#[119,104,101,110]⟩ (L.drop i2) then Cn el m I (L.drop i2).tail else some (I,L.drop i2)).bind fun (l,r)=>some (⟨s,ty,l⟩,r)):=by (show _=_;rw[J.out];rw[EI])
   have HC:=iy (nK aX.out ⟨#[119,104,101,110]⟩);obtain⟨z,hz⟩:=jt (jq ⟨#[119,104,101,110]⟩ (L.drop i2));rw[hz]at HC J;have HZ:=iy hz;clear hz;go_wp2_with fail;refine HC.out.mono ?_;clear HC;rintro e aH ⟨rfl,aN⟩;have aV:=iy (aX.out.after aN);have av:=im (q:=q) aN;have aR:=ij bN av;have b9:=aE;have R:=jW R aN.below.size;clear aN;have af:Hid (iP aH ra 77 #[s,ty,v]):=iy (kq RB.out a' av);have ag:Hid (kZ n1 178 3 mI uf (fun b=>decide (b<n1)) aH v I):=OL.out.iv lY a7 (lp a7) av;clear RB OL;have RB:=af;have OL:=ag;clear af ag;cases z
   ·skip
    have bR:Hid (X=some (⟨s,ty,I⟩,L.drop i2)):=J.out;obtain⟨AF,cF,bB,DF⟩:=OL.out.row (P:=KJ) lY (fun b hb=>lp hb) (fun y=>rfl) (by have:=ae.out;omega) (fun W b o y hy hj=>⟨Int.le_trans hy.tb iI,hj 0 _ rfl,hj 1 _ rfl,hj 2 _ rfl,jW hy.nm iI⟩);subst bB;have a8:=RB.out;obtain⟨m0,m1,m2⟩:=rT a8;have ml:=jo a8;obtain⟨an,al,ak⟩:=tK a8;have aj:=lM (HB.out.after (k:=aR)) bh;obtain⟨cg,cf,cd⟩:=rT aj;have cc:=jo aj;obtain⟨bY,bX,bW⟩:=tK aj;obtain⟨W,bd,EW,bO,aW,oW,sW⟩:=tR (zs:=[.string ⟨#[]⟩,.int .i64 0,.slice none 0 0]) aj aV.out bh (ij (im aw0) aR) (lI hr) iu [.string s,.int .i64 ty,.slice AF I.length cF] rfl;have hW:(((aH.setCell r (.string s)).setCell ⟨r,1,none⟩ (.int .i64 ty)).setCell ⟨r,2,none⟩ (.slice AF I.length cF))=W:=bd;clear bd;have bJ:=iy hW;clear hW;go_wp2_with fail;try rw[bJ.out]
    obtain⟨u0,u1,u2⟩:=rT EW;exact jR (v:=.agg #[s,ty,.slice AF I.length cF]) (by simp[results,results115,go_sem,u0,u1,u2]) rfl (lN (x:=⟨s,ty,I⟩) (show X=some (⟨s,ty,I⟩,L.drop i2) from bR.out) aW (⟨⟨s,ty,⟨AF,cF,I⟩⟩,rfl,rfl,⟨hS.out,bE,(DF.below qF (oW n1 iu).below).sub xb (iS iu W)⟩⟩) bO rfl (aE.out))
   have aY:Hid (X=(Cn el m I (L.drop (i2+1))).bind fun (l,r)=>some (⟨s,ty,l⟩,r)):=by (show _=_;rw[J.out,iG rfl,tail_drop])
   clear J;have b5:=pI HZ.out;obtain⟨A7,c7,bD,_,_⟩:=ji OL.out.own;subst bD;have a8:=RB.out;obtain⟨m0,m1,m2⟩:=rT a8;have ml:=jo a8;obtain⟨an,al,ak⟩:=tK a8;have HC:=iy (mF aV.out (I.length:Int) 4);go_wp2_with fail;refine HC.out.mono ?_;clear HC m0 m1 m2 ml an al ak;rintro e b1 ⟨aN,hE⟩;have aU:=iy (aV.out.after aN);have au:=im (q:=q) aN;have bf:=ij aR au;have b8:=b9;have R:=jW R aN.below.size;clear aN;have af:=iy (kq RB.out a' au);have ag:=iy (OL.out.iv lY a7 (lp a7) au);clear RB OL;have RB:=af;have OL:=ag;clear af ag;rcases hE with⟨hlt4,rfl⟩ | ⟨hge4,hf⟩
   ·skip
    obtain⟨m,rfl⟩:∃j,m=j+1:=⟨m-1,by have:=ae.out;omega⟩;have J:Hid (X=((mD el (L.drop (i2+1))).bind fun (o,r)=>pX el m (I++[o]) r).bind fun (l,r)=>some (⟨s,ty,l⟩,r)):=aY.out;clear aY;obtain⟨c0,c1,b0,c3,f2,l0⟩:=aU.out.fields;have bH:=aU.out.few;obtain⟨aa,aF,bP,be,aG,aA⟩:∃z,b1.setCell ⟨q,2,none⟩ (.int .i64 ((i2:Int)+1))=z/\Hid (Rd B q A c L en eA ec el z (i2+1))/\ik (iz q w0) (iz q z)/\ik (iz q b1) (iz q z)/\n1<=z.heap.size:=⟨_,rfl,aU.out.move (j:=i2+1) b5,by rw[jJ];exact bf,by rw[jJ];exact iq _,by rw[jc];exact R⟩;have R:=aA;clear aA;have b7:=iy (wc b8.out);go_wp2_with fail;try rw[aF]
    clear aF c0 c1 b0 c3 f2 l0;obtain⟨v,hv⟩:=jt (Value.slice A7 I.length c7);rw[hv]at RB OL;have af:Hid (iP aa ra 77 #[s,ty,v]):=iy (kq RB.out a' aG);have ag:Hid (kZ n1 178 3 mI uf (fun b=>decide (b<n1)) aa v I):=OL.out.iv lY a7 (lp a7) aG;clear RB OL;have RB:=af;have OL:=ag;clear af ag;have HC:Hid (∀U,ik aa U->Calls prog 151 #[.pointer (some q)] U (pk B q A c L en eA ec el U (i2+1) (mD el (L.drop (i2+1))) (fun x _ v=>v=.agg #[.string x.name,.int .i64 x.t,.int .i64 x.tag]/\x.name.size<=65536))):=fun U hU=>qW (bP.out.after hU)
    generalize bI:mD el (L.drop (i2+1))=Y at HC J;have a_:=RB.out;have HK:Hid (∀U,ik (iz q aa) (iz q U)->U.cell? ⟨ra,2,none⟩=some v):=fun U hU=>((kq a_ a' hU).cell 2).trans rfl
    have bT:=jo a_;go_wp2_with fail;refine jm (fun U:World=>U.cell? ⟨ra,2,none⟩=some v) [5,6,7] kp ?_;have aC:(fun U:World=>U.cell? ⟨ra,2,none⟩=some v) aa.drew:=HK.out _ inferInstance;refine wT 0 [1,5,6,7] (.pointer (some ⟨ra,2,none⟩)) aC ?_;try simp only[Act.put,oF,oB,oq]
    refine wT 1 [5,6,7] (v) aC ?_;try simp only[Act.put,oF,oB,oq]
    refine wT 2 [3,4,5,6,7] (.pointer (some q)) aC ?_;try simp only[Act.put,oF,oB,oq]
    clear aC;refine lH 3 ?_;go_simp;go_at_call 151;refine (HC.out _ inferInstance).mono ?_;clear HC;rintro e w9 ⟨aZ,hY⟩;have aM:ik (iz q aa) (iz q w9):=ij (im inferInstance) aZ;clear aZ;cases Y with
    |none=>
     obtain⟨a,er,rfl,he⟩:=hY;unfold oD;exact⟨rfl,kf J.out (ij (im aw0) (ij be aM)) (jz a er he)⟩
    |some y=>
    obtain⟨x9,r9⟩:=y;obtain⟨v9,i9,rfl,bC,R9,bF,bc⟩:=hY;subst bF;obtain⟨rfl,ba⟩:=bC;obtain⟨xn,xt,xg⟩:=x9;simp only[]at ba⊢;have b':=(zp htag hel bI).1;simp only[]at b';refine kS (HK.out _ aM) ?_;have bj:∀g,v.ownBlock=some g->n1<=g/\g<aa.heap.size:=fun g hg=>OL.out.own.lt g hg
    have bp:=OL.out.iv lY a7 (lp a7) aM;have a8:=kq a_ a' aM;have bU:I.length<=100000:=by have:=ae.out;omega
    have bg:n1<=w9.heap.size:=by have h1:=lZ aM;have h2:=R;omega
    obtain⟨bw,ad,bn,bM,az⟩:∃v,w9.alloc (.cells #[xn,xt,xg] 178)=v/\Rd B q A c L en eA ec el v i9/\ik (iz q w0) (iz q v)/\ik w9 v:=⟨_,rfl,R9.after iR,ij (ij be aM) (im iR),iR⟩;have ab:=bp.after lY az;have br:uf (old aa.drew.heap.size bw) ((sO.mk xn xt xg)):=⟨ba,b'⟩;have aS:=mZ (w:=w9) (k:=az) a8;have c6:=iy ad;refine lH 4 ?_;go_simp;try rw[ad]
    refine kS (HK.out _ (ij aM (im az))) ?_;refine lH 5 ?_;obtain⟨bA,aQ,aK,aJ,aI⟩:=info_parts Jp;rw[<- ad];refine jZ (w9.alloc (.cells #[xn,xt,xg] 178)) (.tmp 55) (.tmp 58) 75 rfl n1 178 bA _ 3 _ underlying75 aQ aK aJ aI rfl iI v I.length (I.flatMap mI) rfl (by rw[ad];exact ab.own) _ _ 1 1 [.string xn,.int .i64 xt,.int .i64 xg] rfl (ki (w:=w9) rfl #[xn,xt,xg] 178 _ rfl 1 3 rfl) (by intro u hu;simp only[la]at hu;rcases hu with rfl | rfl | rfl<;>rfl) (by unfold maxLen;omega) iu (by rw[iH];omega) ?_;rw[ad];intro v5 bu aw ao bk;clear aQ aK aJ aI;obtain⟨A5,c5,rfl,_,_⟩:=ji aw;have ay:=ab.add lY br (fun b hb=>by (have hb:=vO hb;have h2:=R;show b<aa.heap.size;omega)) (fun b hb=>(bj b hb).2) aw ao bk;have bm:=bn.grown ab.own ao a7 iu;have bL:=kF bM ab.own ao a7 iu;have ah:=oY aS ao (fun e=>by have:=(ab.own.lt ra e.symm).1;omega);have b_:((.slice A5 (I.length+1) c5):Value).ownBlock≠some ra:=fun e=>by have:=(ay.own.lt ra e).1;omega
    obtain⟨bt,v2,ax,ct,aT,bK,bl,bo⟩:∃z v2,bu.setCell ⟨ra,2,none⟩ (.slice A5 (I.length+1) c5)=z/\v2.ownBlock≠some ra/\Hid (Rd B q A c L en eA ec el z i9)/\ik (iz q w0) (iz q z)/\Hid (iP z ra 77 #[s,ty,v2])/\Hid (kZ n1 178 3 mI uf (fun b=>decide (b<n1)) z v2 (I++[(sO.mk xn xt xg)])):=⟨_,(.slice A5 (I.length+1) c5),rfl,b_,bm.set a' iu 2 _,iJ (k:=⟨by rw[iZ];omega⟩) (h:=bL) _ _,ah.jx 2 _,ay.set lY (lp bx) b_ 2 _⟩;have b6:=iy (jW b7.out bc);have aA:n1<=bt.heap.size:=by rw[<- ax,jc];exact jW (jW bg az.below.size) ao.size
    have bG:(i2+1)<=i9:=bc;try refine kL ?_
    obtain⟨m0,m1,m2⟩:=rT ah;have ml:=jo ah;obtain⟨an,al,ak⟩:=tK ah;refine lH 6 ?_;go_simp;try refine kL ?_
    refine lH 7 ?_;go_simp;try refine kL ?_
    try rw[ax]
    refine iT kp ?_ _;clear m0 an m1 al m2 ak ml ax ah bm ay aw ao bk aS br ab bn ad c6 bp a8 R9 HK a_ RB OL bj aM bT bU bg;have RB:=bl;have OL:=bo;clear R;have R:=aA;clear bl bo;have J:Hid (X=(pX el m (I++[sO.mk xn xt xg]) (L.drop i9)).bind fun (l,r)=>some (⟨s,ty,l⟩,r)):=J.out;have aP:Hid ((I++[(⟨xn,xt,xg⟩:sO)]).length+m=4):=by (show _=_;rw[mo];have:=ae.out;simp;omega)
    go_wp2;go_roundw
    case rel=>exact⟨i9,m,v2,_,b6,aP,J,aT,bK,R,RB,OL⟩
    case measure=>(rw[je aT.out.fields.2.2.1,d1.out];have h1:=bG;have h2:=aT.out.le;omega)
   obtain rfl:m=0:=by have:=ae.out;omega
   have bq:Hid (X=none):=aY.out;obtain⟨a,er,rfl,he⟩:=hf;unfold oD;go_wp2;exact⟨rfl,kf bq.out (ij (im aw0) bf) (jz a er he)⟩
  clear J;intro w5 R5 J c' a5 bz cU;rw[tail_drop]at J;replace ai:=iy (kq ai.out a' c');have a_:iP w5 ra 77 #[s,.int .i64 0,.slice none 0 0]:=ai.out;obtain⟨m0,m1,m2⟩:=rT a_;have ml:=jo a_;obtain⟨an,al,ak⟩:=tK a_;obtain⟨w6,cm,R6,a6,aD⟩:∃z,w5.setCell ⟨ra,1,none⟩ (.int .i64 (2))=z/\Hid (Rd B q A c L en eA ec el z (i3+1))/\ik (iz q w0) (iz q z)/\iP z ra 77 #[s,.int .i64 (2),.slice none 0 0]:=⟨_,rfl,R5.out.set a' iu 1 _,iJ (k:=⟨by rw[iZ];omega⟩) (h:=a5) _ _,a_.jx 1 _⟩;have c2:=bz;go_wp2_with fail;try rw[cm]
  clear cm m0 m1 m2 ml an al ak a_ ai;obtain⟨ty,aO⟩:∃t:Int,2=t:=⟨_,rfl⟩;have bE:ty<=2000:=iu;obtain⟨n1,b3⟩:=jt (w6.heap.size);have bx:ra<n1:=by have:=aD.lt;omega
  have a7:q<n1:=iu;have ch:w0.heap.size<=n1:=iu;obtain⟨v0,aL⟩:=jt (Value.slice none 0 0);obtain⟨aq,aB⟩:∃y:List sO,y=[]:=⟨_,rfl⟩;rw[aO,aL]at aD;have RB:=iy aD;have OL:Hid (kZ n1 178 3 mI uf (fun b=>decide (b<n1)) w6 v0 aq):=by (show kZ n1 178 3 mI uf (fun b=>decide (b<n1)) w6 v0 aq;rw[<- aL,aB];exact vZ)
  have J:Hid (X=(pX el 4 aq (L.drop (i3+1))).bind fun (l,r)=>some (⟨s,ty,l⟩,r)):=by (show _=_;rw[aB,<- aO];exact J.out)
  have ar:Hid (aq.length+4=4):=by (show _=_;rw[aB];rfl)
  clear aD aO aL aB;have b2:=lI b3.symm;go_loopw [] (fun wr=>∃(i' m:Nat) (v:Value) (I:List sO),Hid (i0<=i')/\Hid (I.length+m=4)/\Hid (X=(pX el m I (L.drop i')).bind fun (l,r)=>some (⟨s,ty,l⟩,r))/\Hid (Rd B q A c L en eA ec el wr i')/\ik (iz q w0) (iz q wr)/\n1<=wr.heap.size/\Hid (iP wr ra 77 #[s,ty,v])/\Hid (kZ n1 178 3 mI uf (fun b=>decide (b<n1)) wr v I)) (fun wr=>L.length-lO wr q 2)
  case atStart=>exact⟨(i3+1),4,v0,aq,c2,ar,J,R6,a6,b2,RB,OL⟩
  case round=>
  clear J RB OL ar b2 b3;obtain⟨i2,m,v,I,aE,ae,J,aX,bN,R,RB,OL⟩:=hrel;have d1:=iy (je aX.out.fields.2.2.1);have J:Hid (X=(if jq ⟨#[119,104,101,110]⟩ (L.drop i2) then Cn el m I (L.drop i2).tail else some (I,L.drop i2)).bind fun (l,r)=>some (⟨s,ty,l⟩,r)):=by (show _=_;rw[J.out];rw[EI])
  have HC:=iy (nK aX.out ⟨#[119,104,101,110]⟩);obtain⟨z,hz⟩:=jt (jq ⟨#[119,104,101,110]⟩ (L.drop i2));rw[hz]at HC J;have HZ:=iy hz;clear hz;go_wp2_with fail;refine HC.out.mono ?_;clear HC;rintro e aH ⟨rfl,aN⟩;have aV:=iy (aX.out.after aN);have av:=im (q:=q) aN;have aR:=ij bN av;have b9:=aE;have R:=jW R aN.below.size;clear aN;have af:Hid (iP aH ra 77 #[s,ty,v]):=iy (kq RB.out a' av);have ag:Hid (kZ n1 178 3 mI uf (fun b=>decide (b<n1)) aH v I):=OL.out.iv lY a7 (lp a7) av;clear RB OL;have RB:=af;have OL:=ag;clear af ag;cases z
  ·skip
   have bR:Hid (X=some (⟨s,ty,I⟩,L.drop i2)):=J.out;obtain⟨AF,cF,bB,DF⟩:=OL.out.row (P:=KJ) lY (fun b hb=>lp hb) (fun y=>rfl) (by have:=ae.out;omega) (fun W b o y hy hj=>⟨Int.le_trans hy.tb iI,hj 0 _ rfl,hj 1 _ rfl,hj 2 _ rfl,jW hy.nm iI⟩);subst bB;have a8:=RB.out;obtain⟨m0,m1,m2⟩:=rT a8;have ml:=jo a8;obtain⟨an,al,ak⟩:=tK a8;have aj:=lM (HB.out.after (k:=aR)) bh;obtain⟨cg,cf,cd⟩:=rT aj;have cc:=jo aj;obtain⟨bY,bX,bW⟩:=tK aj;obtain⟨W,bd,EW,bO,aW,oW,sW⟩:=tR (zs:=[.string ⟨#[]⟩,.int .i64 0,.slice none 0 0]) aj aV.out bh (ij (im aw0) aR) (lI hr) iu [.string s,.int .i64 ty,.slice AF I.length cF] rfl;have hW:(((aH.setCell r (.string s)).setCell ⟨r,1,none⟩ (.int .i64 ty)).setCell ⟨r,2,none⟩ (.slice AF I.length cF))=W:=bd;clear bd;have bJ:=iy hW;clear hW;go_wp2_with fail;try rw[bJ.out]
   obtain⟨u0,u1,u2⟩:=rT EW;exact jR (v:=.agg #[s,ty,.slice AF I.length cF]) (by simp[results,results115,go_sem,u0,u1,u2]) rfl (lN (x:=⟨s,ty,I⟩) (show X=some (⟨s,ty,I⟩,L.drop i2) from bR.out) aW (⟨⟨s,ty,⟨AF,cF,I⟩⟩,rfl,rfl,⟨hS.out,bE,(DF.below qF (oW n1 iu).below).sub xb (iS iu W)⟩⟩) bO rfl (aE.out))
  have aY:Hid (X=(Cn el m I (L.drop (i2+1))).bind fun (l,r)=>some (⟨s,ty,l⟩,r)):=by (show _=_;rw[J.out,iG rfl,tail_drop])
  clear J;have b5:=pI HZ.out;obtain⟨A7,c7,bD,_,_⟩:=ji OL.out.own;subst bD;have a8:=RB.out;obtain⟨m0,m1,m2⟩:=rT a8;have ml:=jo a8;obtain⟨an,al,ak⟩:=tK a8;have HC:=iy (mF aV.out (I.length:Int) 4);go_wp2_with fail;refine HC.out.mono ?_;clear HC m0 m1 m2 ml an al ak;rintro e b1 ⟨aN,hE⟩;have aU:=iy (aV.out.after aN);have au:=im (q:=q) aN;have bf:=ij aR au;have b8:=b9;have R:=jW R aN.below.size;clear aN;have af:=iy (kq RB.out a' au);have ag:=iy (OL.out.iv lY a7 (lp a7) au);clear RB OL;have RB:=af;have OL:=ag;clear af ag;rcases hE with⟨hlt4,rfl⟩ | ⟨hge4,hf⟩
  ·skip
   obtain⟨m,rfl⟩:∃j,m=j+1:=⟨m-1,by have:=ae.out;omega⟩;have J:Hid (X=((mD el (L.drop (i2+1))).bind fun (o,r)=>pX el m (I++[o]) r).bind fun (l,r)=>some (⟨s,ty,l⟩,r)):=aY.out;clear aY;obtain⟨c0,c1,b0,c3,f2,l0⟩:=aU.out.fields;have bH:=aU.out.few;obtain⟨aa,aF,bP,be,aG,aA⟩:∃z,b1.setCell ⟨q,2,none⟩ (.int .i64 ((i2:Int)+1))=z/\Hid (Rd B q A c L en eA ec el z (i2+1))/\ik (iz q w0) (iz q z)/\ik (iz q b1) (iz q z)/\n1<=z.heap.size:=⟨_,rfl,aU.out.move (j:=i2+1) b5,by rw[jJ];exact bf,by rw[jJ];exact iq _,by rw[jc];exact R⟩;have R:=aA;clear aA;have b7:=iy (wc b8.out);go_wp2_with fail;try rw[aF]
   clear aF c0 c1 b0 c3 f2 l0;obtain⟨v,hv⟩:∃z,Value.slice A7 I.length c7=z:=⟨_,rfl⟩;rw[hv]at RB OL;have af:Hid (iP aa ra 77 #[s,ty,v]):=iB (kq RB.out a' aG);have ag:Hid (kZ n1 178 3 mI uf (fun b=>decide (b<n1)) aa v I):=OL.out.iv lY a7 (lp a7) aG;clear RB OL;have RB:=af;have OL:=ag;clear af ag;have HC:Hid (∀U,ik aa U->Calls prog 151 #[.pointer (some q)] U (pk B q A c L en eA ec el U (i2+1) (mD el (L.drop (i2+1))) (fun x _ v=>v=.agg #[.string x.name,.int .i64 x.t,.int .i64 x.tag]/\x.name.size<=65536))):=fun U hU=>qW (bP.out.after hU)
   generalize bI:mD el (L.drop (i2+1))=Y at HC J;have a_:=RB.out;have HK:Hid (∀U,ik (iz q aa) (iz q U)->U.cell? ⟨ra,2,none⟩=some v):=fun U hU=>((kq a_ a' hU).cell 2).trans rfl
   have bT:=jo a_;go_wp2_with fail;refine jm (fun U:World=>U.cell? ⟨ra,2,none⟩=some v) [5,6,7] (by kernel_rfl) ?_;have aC:(fun U:World=>U.cell? ⟨ra,2,none⟩=some v) aa.drew:=HK.out _ inferInstance;refine wT 0 [1,5,6,7] (.pointer (some ⟨ra,2,none⟩)) aC ?_;try simp only[Act.put,sC]
   refine wT 1 [5,6,7] (v) aC ?_;try simp only[Act.put,sC]
   refine wT 2 [3,4,5,6,7] (.pointer (some q)) aC ?_;try simp only[Act.put,sC]
   clear aC;refine lH 3 ?_;go_simp;go_at_call 151;refine (HC.out _ iR).mono ?_;clear HC;rintro e w9 ⟨aZ,hY⟩;have aM:ik (iz q aa) (iz q w9):=ij (im inferInstance) aZ;clear aZ;cases Y with
   |none=>
    obtain⟨a,er,rfl,he⟩:=hY;unfold oD;exact⟨rfl,kf J.out (ij (im aw0) (ij be aM)) (jz a er he)⟩
   |some y=>
   obtain⟨x9,r9⟩:=y;obtain⟨v9,i9,rfl,bC,R9,bF,bc⟩:=hY;subst bF;obtain⟨rfl,ba⟩:=bC;obtain⟨xn,xt,xg⟩:=x9;simp only[]at ba⊢;have b':=(zp htag hel bI).1;simp only[]at b';refine kS (HK.out _ aM) ?_;have bj:∀g,v.ownBlock=some g->n1<=g/\g<aa.heap.size:=fun g hg=>OL.out.own.lt g hg
   have bp:=OL.out.iv lY a7 (lp a7) aM;have a8:=kq a_ a' aM;have bU:I.length<=100000:=by have:=ae.out;omega
   have bg:n1<=w9.heap.size:=by have h1:=lZ aM;have h2:=R;omega
   obtain⟨bw,ad,bn,bM,az⟩:∃v,w9.alloc (.cells #[xn,xt,xg] 178)=v/\Rd B q A c L en eA ec el v i9/\ik (iz q w0) (iz q v)/\ik w9 v:=⟨_,rfl,R9.after iR,ij (ij be aM) (im iR),iR⟩;have ab:=bp.after lY az;have br:uf (old aa.drew.heap.size bw) ((sO.mk xn xt xg)):=⟨ba,b'⟩;have aS:=mZ (w:=w9) (k:=az) a8;have c6:=iy ad;refine lH 4 ?_;go_simp;try rw[ad]
   refine kS (HK.out _ (ij aM (im az))) ?_;refine lH 5 ?_;obtain⟨bA,aQ,aK,aJ,aI⟩:=info_parts Jp;rw[<- ad];refine jZ (w9.alloc (.cells #[xn,xt,xg] 178)) (.tmp 55) (.tmp 58) 75 rfl n1 178 bA _ 3 _ underlying75 aQ aK aJ aI rfl iI v I.length (I.flatMap mI) rfl (by rw[ad];exact ab.own) _ _ 1 1 [.string xn,.int .i64 xt,.int .i64 xg] rfl (ki (w:=w9) rfl #[xn,xt,xg] 178 _ rfl 1 3 rfl) (by intro u hu;simp only[la]at hu;rcases hu with rfl | rfl | rfl<;>rfl) (by unfold maxLen;omega) iu (by rw[iH];omega) ?_;rw[ad];intro v5 bu aw ao bk;clear aQ aK aJ aI;obtain⟨A5,c5,rfl,_,_⟩:=ji aw;have ay:=ab.add lY br (fun b hb=>by (have hb:=vO hb;have h2:=R;show b<aa.heap.size;omega)) (fun b hb=>(bj b hb).2) aw ao bk;have bm:=bn.grown ab.own ao a7 iu;have bL:=kF bM ab.own ao a7 iu;have ah:=oY aS ao (fun e=>by have:=(ab.own.lt ra e.symm).1;omega);have b_:((.slice A5 (I.length+1) c5):Value).ownBlock≠some ra:=fun e=>by have:=(ay.own.lt ra e).1;omega
   obtain⟨bt,v2,ax,ct,aT,bK,bl,bo⟩:∃z v2,bu.setCell ⟨ra,2,none⟩ (.slice A5 (I.length+1) c5)=z/\v2.ownBlock≠some ra/\Hid (Rd B q A c L en eA ec el z i9)/\ik (iz q w0) (iz q z)/\Hid (iP z ra 77 #[s,ty,v2])/\Hid (kZ n1 178 3 mI uf (fun b=>decide (b<n1)) z v2 (I++[(sO.mk xn xt xg)])):=⟨_,(.slice A5 (I.length+1) c5),rfl,b_,bm.set a' iu 2 _,iJ (k:=⟨by rw[iZ];omega⟩) (h:=bL) _ _,ah.jx 2 _,ay.set lY (lp bx) b_ 2 _⟩;have b6:=iy (jW b7.out bc);have aA:n1<=bt.heap.size:=by rw[<- ax,jc];exact jW (jW bg az.below.size) ao.size
   have bG:(i2+1)<=i9:=bc;try refine kL ?_
   obtain⟨m0,m1,m2⟩:=rT ah;have ml:=jo ah;obtain⟨an,al,ak⟩:=tK ah;refine lH 6 ?_;go_simp;try refine kL ?_
   refine lH 7 ?_;go_simp;try refine kL ?_
   try rw[ax]
   refine iT kp ?_ _;clear m0 an m1 al m2 ak ml ax ah bm ay aw ao bk aS br ab bn ad c6 bp a8 R9 HK a_ RB OL bj aM bT bU bg;have RB:=bl;have OL:=bo;clear R;have R:=aA;clear bl bo;have J:Hid (X=(pX el m (I++[sO.mk xn xt xg]) (L.drop i9)).bind fun (l,r)=>some (⟨s,ty,l⟩,r)):=J.out;have aP:Hid ((I++[(⟨xn,xt,xg⟩:sO)]).length+m=4):=by (show _=_;rw[mo];have:=ae.out;simp;omega)
   go_wp2;go_roundw
   case rel=>exact⟨i9,m,v2,_,b6,aP,J,aT,bK,R,RB,OL⟩
   case measure=>(rw[je aT.out.fields.2.2.1,d1.out];have h1:=bG;have h2:=aT.out.le;omega)
  obtain rfl:m=0:=by have:=ae.out;omega
  have bq:Hid (X=none):=aY.out;obtain⟨a,er,rfl,he⟩:=hf;unfold oD;go_wp2;exact⟨rfl,kf bq.out (ij (im aw0) bf) (jz a er he)⟩
 clear J;intro w4 R4 J ca a4 c4 cV;rw[tail_drop]at J;replace ai:=iy (kq ai.out a' ca);have a_:iP w4 ra 77 #[s,.int .i64 0,.slice none 0 0]:=ai.out;obtain⟨m0,m1,m2⟩:=rT a_;have ml:=jo a_;obtain⟨an,al,ak⟩:=tK a_;obtain⟨w5,cn,R5,a5,aD⟩:∃z,w4.setCell ⟨ra,1,none⟩ (.int .i64 (1))=z/\Hid (Rd B q A c L en eA ec el z (i3+1))/\ik (iz q w0) (iz q z)/\iP z ra 77 #[s,.int .i64 (1),.slice none 0 0]:=⟨_,rfl,R4.out.set a' iu 1 _,iJ (k:=⟨by rw[iZ];omega⟩) (h:=a4) _ _,a_.jx 1 _⟩;have bz:=c4;go_wp2_with fail;try rw[cn]
 clear cn m0 m1 m2 ml an al ak a_ ai;obtain⟨ty,aO⟩:∃t:Int,1=t:=⟨_,rfl⟩;have bE:ty<=2000:=iu;obtain⟨n1,b3⟩:=jt (w5.heap.size);have bx:ra<n1:=by have:=aD.lt;omega
 have a7:q<n1:=iu;have ch:w0.heap.size<=n1:=iu;obtain⟨v0,aL⟩:=jt (Value.slice none 0 0);obtain⟨aq,aB⟩:∃y:List sO,y=[]:=⟨_,rfl⟩;rw[aO,aL]at aD;have RB:=iy aD;have OL:Hid (kZ n1 178 3 mI uf (fun b=>decide (b<n1)) w5 v0 aq):=by (show kZ n1 178 3 mI uf (fun b=>decide (b<n1)) w5 v0 aq;rw[<- aL,aB];exact vZ)
 have J:Hid (X=(pX el 4 aq (L.drop (i3+1))).bind fun (l,r)=>some (⟨s,ty,l⟩,r)):=by (show _=_;rw[aB,<- aO];exact J.out)
 have ar:Hid (aq.length+4=4):=by (show _=_;rw[aB];rfl)
 clear aD aO aL aB;have b2:=lI b3.symm;go_loopw [] (fun wr=>∃(i' m:Nat) (v:Value) (I:List sO),Hid (i0<=i')/\Hid (I.length+m=4)/\Hid (X=(pX el m I (L.drop i')).bind fun (l,r)=>some (⟨s,ty,l⟩,r))/\Hid (Rd B q A c L en eA ec el wr i')/\ik (iz q w0) (iz q wr)/\n1<=wr.heap.size/\Hid (iP wr ra 77 #[s,ty,v])/\Hid (kZ n1 178 3 mI uf (fun b=>decide (b<n1)) wr v I)) (fun wr=>L.length-lO wr q 2)
 case atStart=>exact⟨(i3+1),4,v0,aq,bz,ar,J,R5,a5,b2,RB,OL⟩
 case round=>
 clear J RB OL ar b2 b3;obtain⟨i2,m,v,I,aE,ae,J,aX,bN,R,RB,OL⟩:=hrel;have d1:=iy (je aX.out.fields.2.2.1);have J:Hid (X=(if jq ⟨#[119,104,101,110]⟩ (L.drop i2) then Cn el m I (L.drop i2).tail else some (I,L.drop i2)).bind fun (l,r)=>some (⟨s,ty,l⟩,r)):=by (show _=_;rw[J.out];rw[EI])
 have HC:=iy (nK aX.out ⟨#[119,104,101,110]⟩);obtain⟨z,hz⟩:=jt (jq ⟨#[119,104,101,110]⟩ (L.drop i2));rw[hz]at HC J;have HZ:=iy hz;clear hz;go_wp2_with fail;refine HC.out.mono ?_;clear HC;rintro e aH ⟨rfl,aN⟩;have aV:=iy (aX.out.after aN);have av:=im (q:=q) aN;have aR:=ij bN av;have b9:=aE;have R:=jW R aN.below.size;clear aN;have af:Hid (iP aH ra 77 #[s,ty,v]):=iy (kq RB.out a' av);have ag:Hid (kZ n1 178 3 mI uf (fun b=>decide (b<n1)) aH v I):=OL.out.iv lY a7 (lp a7) av;clear RB OL;have RB:=af;have OL:=ag;clear af ag;cases z
 ·skip
  have bR:Hid (X=some (⟨s,ty,I⟩,L.drop i2)):=J.out;obtain⟨AF,cF,bB,DF⟩:=OL.out.row (P:=KJ) lY (fun b hb=>lp hb) (fun y=>rfl) (by have:=ae.out;omega) (fun W b o y hy hj=>⟨Int.le_trans hy.tb iI,hj 0 _ rfl,hj 1 _ rfl,hj 2 _ rfl,jW hy.nm iI⟩);subst bB;have a8:=RB.out;obtain⟨m0,m1,m2⟩:=rT a8;have ml:=jo a8;obtain⟨an,al,ak⟩:=tK a8;have aj:=lM (HB.out.after (k:=aR)) bh;obtain⟨cg,cf,cd⟩:=rT aj;have cc:=jo aj;obtain⟨bY,bX,bW⟩:=tK aj;obtain⟨W,bd,EW,bO,aW,oW,sW⟩:=tR (zs:=[.string ⟨#[]⟩,.int .i64 0,.slice none 0 0]) aj aV.out bh (ij (im aw0) aR) (lI hr) iu [.string s,.int .i64 ty,.slice AF I.length cF] rfl;have hW:(((aH.setCell r (.string s)).setCell ⟨r,1,none⟩ (.int .i64 ty)).setCell ⟨r,2,none⟩ (.slice AF I.length cF))=W:=bd;clear bd;have bJ:=iy hW;clear hW;go_wp2_with fail;try rw[bJ.out]
  obtain⟨u0,u1,u2⟩:=rT EW;exact jR (v:=.agg #[s,ty,.slice AF I.length cF]) (by simp[results,results115,go_sem,u0,u1,u2]) rfl (lN (x:=⟨s,ty,I⟩) (show X=some (⟨s,ty,I⟩,L.drop i2) from bR.out) aW (⟨⟨s,ty,⟨AF,cF,I⟩⟩,rfl,rfl,⟨hS.out,bE,(DF.below qF (oW n1 iu).below).sub xb (iS iu W)⟩⟩) bO rfl (aE.out))
 have aY:Hid (X=(Cn el m I (L.drop (i2+1))).bind fun (l,r)=>some (⟨s,ty,l⟩,r)):=by (show _=_;rw[J.out,iG rfl,tail_drop])
 clear J;have b5:=pI HZ.out;obtain⟨A7,c7,bD,_,_⟩:=ji OL.out.own;subst bD;have a8:=RB.out;obtain⟨m0,m1,m2⟩:=rT a8;have ml:=jo a8;obtain⟨an,al,ak⟩:=tK a8;have HC:=iy (mF aV.out (I.length:Int) 4);go_wp2_with fail;refine HC.out.mono ?_;clear HC m0 m1 m2 ml an al ak;rintro e b1 ⟨aN,hE⟩;have aU:=iy (aV.out.after aN);have au:=im (q:=q) aN;have bf:=ij aR au;have b8:=b9;have R:=jW R aN.below.size;clear aN;have af:=iy (kq RB.out a' au);have ag:=iy (OL.out.iv lY a7 (lp a7) au);clear RB OL;have RB:=af;have OL:=ag;clear af ag;rcases hE with⟨hlt4,rfl⟩ | ⟨hge4,hf⟩
 ·skip
  obtain⟨m,rfl⟩:∃j,m=j+1:=⟨m-1,by have:=ae.out;omega⟩;have J:Hid (X=((mD el (L.drop (i2+1))).bind fun (o,r)=>pX el m (I++[o]) r).bind fun (l,r)=>some (⟨s,ty,l⟩,r)):=aY.out;clear aY;obtain⟨c0,c1,b0,c3,f2,l0⟩:=aU.out.fields;have bH:=aU.out.few;obtain⟨aa,aF,bP,be,aG,aA⟩:∃z,b1.setCell ⟨q,2,none⟩ (.int .i64 ((i2:Int)+1))=z/\Hid (Rd B q A c L en eA ec el z (i2+1))/\ik (iz q w0) (iz q z)/\ik (iz q b1) (iz q z)/\n1<=z.heap.size:=⟨_,rfl,aU.out.move (j:=i2+1) b5,by rw[jJ];exact bf,by rw[jJ];exact iq _,by rw[jc];exact R⟩;have R:=aA;clear aA;have b7:=iy (wc b8.out);go_wp2_with fail;try rw[aF]
  clear aF c0 c1 b0 c3 f2 l0;obtain⟨v,hv⟩:=jt (Value.slice A7 I.length c7);rw[hv]at RB OL;have af:Hid (iP aa ra 77 #[s,ty,v]):=iy (kq RB.out a' aG);have ag:Hid (kZ n1 178 3 mI uf (fun b=>decide (b<n1)) aa v I):=OL.out.iv lY a7 (lp a7) aG;clear RB OL;have RB:=af;have OL:=ag;clear af ag;have HC:Hid (∀U,ik aa U->Calls prog 151 #[.pointer (some q)] U (pk B q A c L en eA ec el U (i2+1) (mD el (L.drop (i2+1))) (fun x _ v=>v=.agg #[.string x.name,.int .i64 x.t,.int .i64 x.tag]/\x.name.size<=65536))):=fun U hU=>qW (bP.out.after hU)
  generalize bI:mD el (L.drop (i2+1))=Y at HC J;have a_:=RB.out;have HK:Hid (∀U,ik (iz q aa) (iz q U)->U.cell? ⟨ra,2,none⟩=some v):=fun U hU=>((kq a_ a' hU).cell 2).trans rfl
  have bT:=jo a_;go_wp2_with fail;refine jm (fun U:World=>U.cell? ⟨ra,2,none⟩=some v) [5,6,7] (by kernel_rfl) ?_;have aC:(fun U:World=>U.cell? ⟨ra,2,none⟩=some v) aa.drew:=HK.out _ inferInstance;refine wT 0 [1,5,6,7] (.pointer (some ⟨ra,2,none⟩)) aC ?_;try simp only[Act.put,sC]
  refine wT 1 [5,6,7] (v) aC ?_;try simp only[Act.put,sC]
  refine wT 2 [3,4,5,6,7] (.pointer (some q)) aC ?_;try simp only[Act.put,sC]
  clear aC;refine lH 3 ?_;go_simp;go_at_call 151;refine (HC.out _ inferInstance).mono ?_;rintro e w9 ⟨aZ,hY⟩;have aM:ik (iz q aa) (iz q w9):=ij (im iR) aZ;cases Y with
  |none=>
   obtain⟨a,er,rfl,he⟩:=hY;unfold oD;exact⟨rfl,kf J.out (ij (im aw0) (ij be aM)) (jz a er he)⟩
  |some y=>
  obtain⟨x9,r9⟩:=y;obtain⟨v9,i9,rfl,bC,R9,bF,bc⟩:=hY;subst bF;obtain⟨rfl,ba⟩:=bC;obtain⟨xn,xt,xg⟩:=x9;simp only[]at ba⊢;have b':=(zp htag hel bI).1;simp only[]at b';refine kS (HK.out _ aM) ?_;have bj:∀g,v.ownBlock=some g->n1<=g/\g<aa.heap.size:=fun g hg=>OL.out.own.lt g hg
  have bp:=OL.out.iv lY a7 (lp a7) aM;have a8:=kq a_ a' aM;have bU:I.length<=100000:=by have:=ae.out;omega
  have bg:n1<=w9.heap.size:=by have h1:=lZ aM;have h2:=R;omega
  obtain⟨bw,ad,bn,bM,az⟩:∃v,w9.alloc (.cells #[xn,xt,xg] 178)=v/\Rd B q A c L en eA ec el v i9/\ik (iz q w0) (iz q v)/\ik w9 v:=⟨_,rfl,R9.after iR,ij (ij be aM) (im iR),iR⟩;have ab:=bp.after lY az;have br:uf (old aa.drew.heap.size bw) ((sO.mk xn xt xg)):=⟨ba,b'⟩;have aS:=mZ (w:=w9) (k:=az) a8;refine lH 4 ?_;go_simp;try rw[ad]
  refine kS (HK.out _ (ij aM (im az))) ?_;refine lH 5 ?_;obtain⟨bA,aQ,aK,aJ,aI⟩:=info_parts Jp;rw[<- ad];refine jZ (w9.alloc (.cells #[xn,xt,xg] 178)) (.tmp 55) (.tmp 58) 75 rfl n1 178 bA _ 3 _ underlying75 aQ aK aJ aI rfl iI v I.length (I.flatMap mI) rfl (by rw[ad];exact ab.own) _ _ 1 1 [.string xn,.int .i64 xt,.int .i64 xg] rfl (ki (w:=w9) rfl #[xn,xt,xg] 178 _ rfl 1 3 rfl) (by intro u hu;simp only[la]at hu;rcases hu with rfl | rfl | rfl<;>rfl) (by unfold maxLen;omega) iu (by rw[iH];omega) ?_;rw[ad];intro v5 bu aw ao bk;obtain⟨A5,c5,rfl,_,_⟩:=ji aw;have ay:=ab.add lY br (fun b hb=>by (have hb:=vO hb;have h2:=R;show b<aa.heap.size;omega)) (fun b hb=>(bj b hb).2) aw ao bk;have bm:=bn.grown ab.own ao a7 iu;have bL:=kF bM ab.own ao a7 iu;have ah:=oY aS ao (fun e=>by have:=(ab.own.lt ra e.symm).1;omega);have b_:((.slice A5 (I.length+1) c5):Value).ownBlock≠some ra:=fun e=>by have:=(ay.own.lt ra e).1;omega
  obtain⟨bt,v2,ax,ct,aT,bK,bl,bo⟩:∃z v2,bu.setCell ⟨ra,2,none⟩ (.slice A5 (I.length+1) c5)=z/\v2.ownBlock≠some ra/\Hid (Rd B q A c L en eA ec el z i9)/\ik (iz q w0) (iz q z)/\Hid (iP z ra 77 #[s,ty,v2])/\Hid (kZ n1 178 3 mI uf (fun b=>decide (b<n1)) z v2 (I++[(sO.mk xn xt xg)])):=⟨_,(.slice A5 (I.length+1) c5),rfl,b_,bm.set a' iu 2 _,iJ (k:=⟨by rw[iZ];omega⟩) (h:=bL) _ _,ah.jx 2 _,ay.set lY (lp bx) b_ 2 _⟩;have b6:=iy (jW b7.out bc);have aA:n1<=bt.heap.size:=by rw[<- ax,jc];exact jW (jW bg az.below.size) ao.size
  have bG:(i2+1)<=i9:=bc;try refine kL ?_
  obtain⟨m0,m1,m2⟩:=rT ah;obtain⟨an,al,ak⟩:=tK ah;refine lH 6 ?_;go_simp;try refine kL ?_
  refine lH 7 ?_;go_simp;try refine kL ?_
  try rw[ax]
  refine iT kp ?_ _;have RB:=bl;have OL:=bo;have R:=aA;have J:Hid (X=(pX el m (I++[sO.mk xn xt xg]) (L.drop i9)).bind fun (l,r)=>some (⟨s,ty,l⟩,r)):=J.out;have aP:Hid ((I++[(⟨xn,xt,xg⟩:sO)]).length+m=4):=by (show _=_;rw[mo];have:=ae.out;simp;omega)
  go_wp2;go_roundw
  case rel=>exact⟨i9,m,v2,_,b6,aP,J,aT,bK,R,RB,OL⟩
  case measure=>(rw[je aT.out.fields.2.2.1,d1.out];have h1:=bG;have h2:=aT.out.le;omega)
 obtain rfl:m=0:=by have:=ae.out;omega
 have bq:Hid (X=none):=aY.out;obtain⟨a,er,rfl,he⟩:=hf;unfold oD;go_wp2;exact⟨rfl,kf bq.out (ij (im aw0) bf) (jz a er he)⟩
end
end
end Go.Proofs.YtnigblndonocfaaGreatDoor
