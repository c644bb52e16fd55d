/- A part of the proof. -/
import Derived.Test.YtnigblndonocfaaGreatDoorPNs
set_option linter.unusedVariables false
set_option linter.unusedSimpArgs false
namespace Go.Proofs.YtnigblndonocfaaGreatDoor
set_option maxRecDepth 100000
set_option maxHeartbeats 6400000
open Go.Proofs.Tryz
open Go.RowKit Go.BigFrame
section
section
variable {B:World} {q:Nat} {A:Option Addr} {c:Nat} {L:List Tk} {en:Int} {eA:Option Addr} {ec:Nat} {el:List iW} {w w0 w1:World} {i:Nat}
def qD (el:List iW) (k:Nat) (s:ByteArray) (is os lo:List FZ) (cl:List Ex×List Ex) (ts:List Tk):Option (D8×List Tk):=
 (iF [⟨#[108,101,116]⟩] ts).bind fun (_,r)=>(mu el k 3 [] [] r).bind fun (b,r)=>(iF [⟨#[116,101,108]⟩] r).bind fun (_,r)=>some (⟨s,is,os,lo,b.1,b.2,cl.1,cl.2⟩,r)
def yD (el:List iW) (k:Nat) (s:ByteArray) (is:List FZ) (ts:List Tk):Option (D8×List Tk):=
 (iF [⟨#[41]⟩,⟨#[114,101,116,117,114,110,115]⟩,⟨#[40]⟩] ts).bind fun (_,r)=>(mv el false 64 [] r).bind fun (os,r)=>(iF [⟨#[41]⟩] r).bind fun (_,r)=>(oG el r).bind fun (lo,r)=>(ox el k 17 [] [] r).bind fun (cl,r)=>qD el k s is os lo cl r
theorem Sd (el:List iW) (k:Nat) (ts:List Tk):uO el k ts=(pV ts).bind fun (s,r)=>(iF [⟨#[40]⟩] r).bind fun (_,r)=>(if jq ⟨#[41]⟩ r then some ([],r) else mv el false 64 [] r).bind fun (is,r)=>yD el k s is r:=rfl
section
variable {β:Type} {k f:Nat} {as_ en_:List Ex} {ts:List Tk} {G:(List Ex×List Ex)×List Tk->Option β}
theorem QS (hz:jq ⟨#[97,115,115,117,109,101]⟩ ts=true) (hl:¬8<=as_.length):(ox el k (f+1) as_ en_ ts).bind G=(jg el k ts.tail).bind fun (x,r)=>(iF [⟨#[59]⟩] r).bind fun (_,r)=>(ox el k f (as_++[x]) en_ r).bind G:=by
 rw[ox,iG hz,iV hl];cases jg el k ts.tail with
 |none=>rfl
 |some p=>obtain⟨x,r⟩:=p;show Option.bind (Option.bind (iF [⟨#[59]⟩] r) _) G=Option.bind (iF [⟨#[59]⟩] r) _;cases iF [⟨#[59]⟩] r<;>rfl
theorem OP (hz:jq ⟨#[97,115,115,117,109,101]⟩ ts=true) (hl:8<=as_.length):(ox el k (f+1) as_ en_ ts).bind G=none:=by rw[ox,iG hz,iG hl];rfl
theorem Qs (ha:jq ⟨#[97,115,115,117,109,101]⟩ ts=false) (hz:jq ⟨#[101,110,115,117,114,101]⟩ ts=true) (hl:¬8<=en_.length):(ox el k (f+1) as_ en_ ts).bind G=(jg el k ts.tail).bind fun (x,r)=>(iF [⟨#[59]⟩] r).bind fun (_,r)=>(ox el k f as_ (en_++[x]) r).bind G:=by
 rw[ox,iV (by rw[ha];exact yE),iG hz,iV hl];cases jg el k ts.tail with
 |none=>rfl
 |some p=>obtain⟨x,r⟩:=p;show Option.bind (Option.bind (iF [⟨#[59]⟩] r) _) G=Option.bind (iF [⟨#[59]⟩] r) _;cases iF [⟨#[59]⟩] r<;>rfl
theorem Pm (ha:jq ⟨#[97,115,115,117,109,101]⟩ ts=false) (hz:jq ⟨#[101,110,115,117,114,101]⟩ ts=true) (hl:8<=en_.length):(ox el k (f+1) as_ en_ ts).bind G=none:=by rw[ox,iV (by rw[ha];exact yE),iG hz,iG hl];rfl
theorem Q2 (ha:jq ⟨#[97,115,115,117,109,101]⟩ ts=false) (hz:jq ⟨#[101,110,115,117,114,101]⟩ ts=false):(ox el k (f+1) as_ en_ ts).bind G=G ((as_,en_),ts):=by rw[ox,iV (by rw[ha];exact yE),iV (by rw[hz];exact yE)];rfl
end
theorem uY {w:World} {b:Nat} {T:TypeId} {cs:Array Value} (h:iP w b T cs) (news:List Value) (hc:cs.toList=news) (n sz:Nat) (hn:news.length=n*sz):oZ w (b+1) sz (some ⟨b,0,none⟩) n news:=by
 refine⟨hn,fun _=>⟨_,rfl,Nat.lt_succ_self b,fun j u o=>?_⟩⟩;rw[yb,h.cell,<- Array.getElem?_toList,hc,t_];exact o
theorem N7 {k:Nat} (htag:∀u∈el,u.tags.l.length<=16) (hel:el.length<=1000) (h:Rd B q A c L en eA ec el w i) (hk:20*(L.length-i)+40<=k):Calls prog 36 #[.pointer (some q)] w (pk B q A c L en eA ec el w i (uO el k (L.drop i)) (VG rZ JY nh.er w.heap.size)):=by
 obtain⟨X,hX⟩:∃X,uO el k (L.drop i)=X:=⟨_,rfl⟩;rw[hX];obtain⟨i0,dp⟩:∃j,i=j:=⟨_,rfl⟩;rw[dp]at hX h hk⊢;clear dp;have HX:=iB hX.symm;have dV:Hid (i0<=i0):=js _;clear hX;have hq:=h.blk.lt;have e5:=h.base;obtain⟨r,hr⟩:∃r,w.heap.size=r:=⟨_,rfl⟩;have cA:r≠q:=by omega
 have eX:q<r:=by omega
 obtain⟨w0,dY,aw0,B0,R0,s0⟩:=Ls h hr cA #[.string ⟨#[]⟩,.slice none 0 0,.slice none 0 0,.slice none 0 0,.slice none 0 0,.slice none 0 0,.slice none 0 0,.slice none 0 0] 65;have HB:=iB B0;have a0:ik (iz q w0) (iz q w0):=iq _;have ek:q<w0.heap.size:=by omega
 have eo:B.heap.size<=w0.heap.size:=by omega
 clear h B0;go_in;go_wp2_with fail;try rw[hr]
 try rw[dY]
 replace HX:Hid (X=(pV (L.drop i0)).bind fun (s,r)=>(iF [⟨#[40]⟩] r).bind fun (_,r)=>(if jq ⟨#[41]⟩ r then some ([],r) else mv el false 64 [] r).bind fun (is,r)=>yD el k s is r):=HX.out;go_wp2_with fail;refine td (qb R0.out) HX a0 dV ?_;clear HX;intro w1 x1 v1 i1 e2 R1 HX dU f' fj a1;obtain⟨rfl,cy⟩:=e2;obtain⟨s,hs⟩:∃s,x1=s:=⟨_,rfl⟩;rw[hs]at HX cy⊢;clear hs;have hS:=iB cy;clear cy;obtain⟨b3,cD⟩:∃g,w1.heap.size=g:=⟨_,rfl⟩;have eW:r<b3:=by have:=lZ a1;omega
 have ai:b3≠q:=by omega
 have bh:w0.heap.size<=b3:=by have:=lZ a1;omega
 obtain⟨n1,di⟩:∃n,b3+1=n:=⟨_,rfl⟩;have ag:q<n1:=by omega
 have cd:B.heap.size<=n1:=by omega
 have cc:w0.heap.size<=n1:=by omega
 obtain⟨w2,da,B3,R2,a2,a_,s2⟩:∃z,w1.alloc (.cells #[s,.slice none 0 0,.slice none 0 0,.slice none 0 0,.slice none 0 0,.slice none 0 0,.slice none 0 0,.slice none 0 0] 65)=z/\Hid (iP z b3 65 #[s,.slice none 0 0,.slice none 0 0,.slice none 0 0,.slice none 0 0,.slice none 0 0,.slice none 0 0,.slice none 0 0])/\Hid (Rd B q A c L en eA ec el z i1)/\ik (iz q w0) (iz q z)/\n1<=z.heap.size/\Hid (b3+1=z.heap.size):=⟨_,rfl,by rw[<- cD];exact jC ..,R1.out.after inferInstance,ij a1 (im inferInstance),by rw[iH];omega,by (show _=_;rw[iH,cD])⟩;have cn:=iB da;have ep:b3<n1:=by omega
 have et:=iB di;clear da R1 s0 di;have dT:=dU;go_wp2_with fail;try rw[cD]
 try rw[cn.out]
 try rw[s2.out]
 go_wp2_with fail;refine td (jH R2.out [⟨#[40]⟩] (by decide)) HX a2 dT ?_;clear HX;intro w3 x3 v3 i3 e1 R3 HX dS f_ dy a3;subst e1;replace B3:Hid (iP w3 b3 65 #[s,.slice none 0 0,.slice none 0 0,.slice none 0 0,.slice none 0 0,.slice none 0 0,.slice none 0 0,.slice none 0 0]):=iB (kq B3.out ai dy);replace a_:=jW a_ (lZ dy);clear cn;replace HX:Hid (X=(if jq ⟨#[41]⟩ (L.drop i3) then some ([],L.drop i3) else mv el false 64 [] (L.drop i3)).bind fun (is,r)=>yD el k s is r):=HX.out;have HC:=iB (nK R3.out ⟨#[41]⟩);obtain⟨zk,b8⟩:∃z,jq ⟨#[41]⟩ (L.drop i3)=z:=⟨_,rfl⟩;rw[b8]at HC HX;have HZ:=iB b8;clear b8;go_wp2_with fail;refine HC.out.mono ?_;clear HC;rintro e w4 ⟨rfl,aN⟩;have R4:=iB (R3.out.after aN);have cO:ik (iz q w3) (iz q w4):=im (q:=q) aN;have a4:=ij a3 cO;have cf:=dS;clear aN;replace B3:Hid (iP w4 b3 65 #[s,.slice none 0 0,.slice none 0 0,.slice none 0 0,.slice none 0 0,.slice none 0 0,.slice none 0 0,.slice none 0 0]):=iB (kq B3.out ai cO);replace a_:=jW a_ (lZ cO);go_upto_if 13 with fail
 go_cut [] (fun wx=>∃(i':Nat) (a':nB iO) (W:World),W=wx/\Hid (i0<=i')/\i0<=i'/\Hid (X=yD el k s (a'.l.map iO.er) (L.drop i'))/\Hid (Rd B q A c L en eA ec el W i')/\ik (iz q w0) (iz q W)/\Hid (iP W b3 65 #[s,a'.val,.slice none 0 0,.slice none 0 0,.slice none 0 0,.slice none 0 0,.slice none 0 0,.slice none 0 0])/\Hid (ir 3 jG (old n1 W) a')/\n1<=W.heap.size)
 case first=>
  cases zk
  ·skip
   replace HX:Hid (X=(mv el false 64 [] (L.drop i3)).bind fun (is,r)=>yD el k s is r):=HX.out;have b7:n1<=w4.heap.size:=a_;go_wp2_with fail;refine td (Ac (M:=64) (by decide) false htag hel R4.out) HX a4 cf ?_;clear HX;intro w5 x5 v5 i5 cx R5 HX dR eZ dx a5;obtain⟨lA,lc,ll,rfl,dk,D0⟩:=cx;have dj:=iB dk;clear dk;replace B3:Hid (iP w5 b3 65 #[s,.slice none 0 0,.slice none 0 0,.slice none 0 0,.slice none 0 0,.slice none 0 0,.slice none 0 0,.slice none 0 0]):=iB (kq B3.out ai dx);replace a_:=jW a_ (lZ dx);have DI:Hid (ir 3 jG (old n1 w5) ⟨lA,lc,ll⟩):=iB (v_ ky D0 (iS b7 w5));clear D0;have ah:=B3.out;obtain⟨m0,m1,m2,m3,m4,m5,m6,m7⟩:=sX ah;have ml:=jo ah;obtain⟨aQ,aP,aO,aL,aK,aJ,aI,aH⟩:=tC ah;obtain⟨w6,d',R6,a6,bx,aG,bw⟩:∃z,w5.setCell ⟨b3,1,none⟩ ((.slice lA ll.length lc))=z/\Hid (Rd B q A c L en eA ec el z i5)/\ik (iz q w0) (iz q z)/\Hid (iP z b3 65 #[s,(.slice lA ll.length lc),.slice none 0 0,.slice none 0 0,.slice none 0 0,.slice none 0 0,.slice none 0 0,.slice none 0 0])/\n1<=z.heap.size/\Hid (ir 3 jG (old n1 z) ⟨lA,lc,ll⟩):=⟨_,rfl,R5.out.set ai (by omega) 1 _,iJ (k:=ko bh) (h:=a5) _ _,ah.jx 1 _,by rw[jc];exact a_,iB (DI.out.below iM (j' (by omega) _ _ _).below)⟩;have cv:=dR;replace B3:=bx;replace DI:=bw;replace a_:=aG;clear bx bw aG;go_wp2_with fail;try rw[d']
   clear d' ah m0 m1 m2 m3 m4 m5 m6 m7 ml aQ aP aO aL aK aJ aI aH;have hI:=cv.out;have hI:=cv.out;replace HX:Hid (X=yD el k s (ll.map iO.er) (L.drop i5)):=by (show _=_;rw[dj.out];exact HX.out)
   go_meet;exact⟨i5,⟨lA,lc,ll⟩,_,rfl,cv,hI,HX,R6,a6,B3,DI,a_⟩
  replace HX:Hid (X=yD el k s [] (L.drop i3)):=HX.out;have hI:=cf.out;have DI:Hid (ir 3 jG (old n1 w4) ⟨none,0,[]⟩):=ir.nil _;go_wp2_with fail;go_meet;exact⟨i3,⟨none,0,[]⟩,_,rfl,cf,hI,HX,R4,a4,B3,DI,a_⟩
 case rest=>
 clear HX B3 R4 a_ a4 cf;obtain⟨i7,a',w7,rfl,dQ,fh,HX,R7,a7,B3,DI,a_⟩:=hcut;replace HX:Hid (X=(iF [⟨#[41]⟩,⟨#[114,101,116,117,114,110,115]⟩,⟨#[40]⟩] (L.drop i7)).bind fun (_,r)=>(mv el false 64 [] r).bind fun (os,r)=>(iF [⟨#[41]⟩] r).bind fun (_,r)=>(oG el r).bind fun (lo,r)=>(ox el k 17 [] [] r).bind fun (cl,r)=>qD el k s (a'.l.map iO.er) os lo cl r):=HX.out;go_wp2_with fail;refine td (jH R7.out [⟨#[41]⟩,⟨#[114,101,116,117,114,110,115]⟩,⟨#[40]⟩] (by decide)) HX a7 dQ ?_;clear HX;intro w8 x8 v8 i8 dZ R8 HX dP eY cN a8;subst dZ;replace B3:Hid (iP w8 b3 65 #[s,a'.val,.slice none 0 0,.slice none 0 0,.slice none 0 0,.slice none 0 0,.slice none 0 0,.slice none 0 0]):=iB (kq B3.out ai cN);replace DI:Hid (ir 3 jG (old n1 w8) a'):=iB (DI.out.below iM (kj ag cN).below);replace a_:=jW a_ (lZ cN);have b7:n1<=w8.heap.size:=a_;go_wp2_with fail;refine td (Ac (M:=64) (by decide) false htag hel R8.out) HX a8 dP ?_;clear HX;intro w9 x9 v9 i9 bg R9 HX aj b5 cM a9;obtain⟨oA,oc,ol,rfl,dh,D0⟩:=bg;have cq:=iB dh;clear dh;replace B3:Hid (iP w9 b3 65 #[s,a'.val,.slice none 0 0,.slice none 0 0,.slice none 0 0,.slice none 0 0,.slice none 0 0,.slice none 0 0]):=iB (kq B3.out ai cM);replace DI:Hid (ir 3 jG (old n1 w9) a'):=iB (DI.out.below iM (kj ag cM).below);replace a_:=jW a_ (lZ cM);have DO:Hid (ir 3 jG (old n1 w9) ⟨oA,oc,ol⟩):=iB (v_ ky D0 (iS b7 w9));clear D0 b7;have ah:=B3.out;obtain⟨m0,m1,m2,m3,m4,m5,m6,m7⟩:=sX ah
 have ml:=jo ah;obtain⟨aQ,aP,aO,aL,aK,aJ,aI,aH⟩:=tC ah;obtain⟨ar,aw,bm,b1,bx,aG,bw,c'⟩:∃z,w9.setCell ⟨b3,2,none⟩ ((.slice oA ol.length oc))=z/\Hid (Rd B q A c L en eA ec el z i9)/\ik (iz q w0) (iz q z)/\Hid (iP z b3 65 #[s,a'.val,(.slice oA ol.length oc),.slice none 0 0,.slice none 0 0,.slice none 0 0,.slice none 0 0,.slice none 0 0])/\n1<=z.heap.size/\Hid (ir 3 jG (old n1 z) a')/\Hid (ir 3 jG (old n1 z) ⟨oA,oc,ol⟩):=⟨_,rfl,R9.out.set ai (by omega) 2 _,iJ (k:=ko bh) (h:=a9) _ _,ah.jx 2 _,by rw[jc];exact a_,iB (DI.out.below iM (j' (by omega) _ _ _).below),iB (DO.out.below iM (j' (by omega) _ _ _).below)⟩;have cY:=aj;replace B3:=bx;replace DI:=bw;replace DO:=c';replace a_:=aG;clear bx bw c' aG;go_wp2_with fail;try rw[aw]
 clear aw ah m0 m1 m2 m3 m4 m5 m6 m7 ml aQ aP aO aL aK aJ aI aH;go_wp2_with fail;refine td (jH bm.out [⟨#[41]⟩] (by decide)) HX b1 cY ?_;clear HX;intro w11 eP eU eV df bl HX cX ey bM bk;subst df;replace B3:Hid (iP w11 b3 65 #[s,a'.val,(.slice oA ol.length oc),.slice none 0 0,.slice none 0 0,.slice none 0 0,.slice none 0 0,.slice none 0 0]):=iB (kq B3.out ai bM);replace DI:Hid (ir 3 jG (old n1 w11) a'):=iB (DI.out.below iM (kj ag bM).below);replace DO:Hid (ir 3 jG (old n1 w11) ⟨oA,oc,ol⟩):=iB (DO.out.below iM (kj ag bM).below);replace a_:=jW a_ (lZ bM);have b7:n1<=w11.heap.size:=a_;go_wp2_with fail;refine td (CR htag hel bl.out) HX bk cX ?_;clear HX;intro bN eO eT i12 de ea HX cW ew bL e8;obtain⟨kA,kc,kl,rfl,dm,D0⟩:=de;have cr:=iB dm;clear dm;replace B3:Hid (iP bN b3 65 #[s,a'.val,(.slice oA ol.length oc),.slice none 0 0,.slice none 0 0,.slice none 0 0,.slice none 0 0,.slice none 0 0]):=iB (kq B3.out ai bL);replace DI:Hid (ir 3 jG (old n1 bN) a'):=iB (DI.out.below iM (kj ag bL).below);replace DO:Hid (ir 3 jG (old n1 bN) ⟨oA,oc,ol⟩):=iB (DO.out.below iM (kj ag bL).below);replace a_:=jW a_ (lZ bL);have DL:Hid (ir 3 jG (old n1 bN) ⟨kA,kc,kl⟩):=iB (v_ ky D0 (iS b7 bN));clear D0 b7;have ah:=B3.out;obtain⟨m0,m1,m2,m3,m4,m5,m6,m7⟩:=sX ah;have ml:=jo ah;obtain⟨aQ,aP,aO,aL,aK,aJ,aI,aH⟩:=tC ah;obtain⟨cb,cp,dB,e7,bx,aG,bw,c',dC⟩:∃z,bN.setCell ⟨b3,3,none⟩ ((.slice kA kl.length kc))=z/\Hid (Rd B q A c L en eA ec el z i12)/\ik (iz q w0) (iz q z)/\Hid (iP z b3 65 #[s,a'.val,(.slice oA ol.length oc),(.slice kA kl.length kc),.slice none 0 0,.slice none 0 0,.slice none 0 0,.slice none 0 0])/\n1<=z.heap.size/\Hid (ir 3 jG (old n1 z) a')/\Hid (ir 3 jG (old n1 z) ⟨oA,oc,ol⟩)/\Hid (ir 3 jG (old n1 z) ⟨kA,kc,kl⟩):=⟨_,rfl,ea.out.set ai (by omega) 3 _,iJ (k:=ko bh) (h:=e8) _ _,ah.jx 3 _,by rw[jc];exact a_,iB (DI.out.below iM (j' (by omega) _ _ _).below),iB (DO.out.below iM (j' (by omega) _ _ _).below),iB (DL.out.below iM (j' (by omega) _ _ _).below)⟩
 have ck:=cW;replace B3:=bx;replace DI:=bw;replace DO:=c';replace DL:=dC;replace a_:=aG;clear bx bw c' dC aG;go_wp2_with fail;try rw[cp]
 clear cp ah m0 m1 m2 m3 m4 m5 m6 m7 ml aQ aP aO aL aK aJ aI aH;have NS:Hid (xm n1 b3 (fun b=>decide (b<n1)) cb s a' ⟨oA,oc,ol⟩ ⟨kA,kc,kl⟩ (.slice none 0 0) (.slice none 0 0) [] []):=⟨⟨fun b hb=>lp hb,fun b hb=>by have:=vO hb;omega⟩,by omega,B3.out,DI.out.sub ky (nO cb fun b hb=>vO hb),DO.out.sub ky (nO cb fun b hb=>vO hb),DL.out.sub ky (nO cb fun b hb=>vO hb),pP.nil,pP.nil,fun b hb=>by cases hb⟩;replace HX:Hid (X=(ox el k 17 (List.map Tx.er []) (List.map Tx.er []) (L.drop i12)).bind fun (cl,r)=>qD el k s (a'.l.map iO.er) (ol.map iO.er) (kl.map iO.er) cl r):=by (show _=_;rw[cq.out,cr.out];exact HX.out)
 have dw:i0<=i12:=ck.out;go_wp2_with fail;go_loopw [] (fun wr=>∃(i' f:Nat) (F:Nat->Bool) (vA vE:Value) (J I:List Tx),Hid (i0<=i')/\i0<=i'/\J.length<=8/\I.length<=8/\J.length+I.length+f=17/\Hid (X=(ox el k f (J.map Tx.er) (I.map Tx.er) (L.drop i')).bind fun (cl,r)=>qD el k s (a'.l.map iO.er) (ol.map iO.er) (kl.map iO.er) cl r)/\Hid (Rd B q A c L en eA ec el wr i')/\ik (iz q w0) (iz q wr)/\n1<=wr.heap.size/\Hid (xm n1 b3 F wr s a' ⟨oA,oc,ol⟩ ⟨kA,kc,kl⟩ vA vE J I)) (fun wr=>L.length-lO wr q 2)
 case atStart=>exact⟨i12,17,_,_,_,[],[],ck,dw,wB _,wB _,rfl,HX,dB,e7,a_,NS⟩
 case round=>
 clear HX NS dB a_ DI DO DL B3 cq cr;obtain⟨ak,f,F,vA,vE,J,I,cV,eB,ff,fc,fa,HX,cS,e6,a_,NS⟩:=hrel;obtain⟨f,rfl⟩:∃j,f=j+1:=⟨f-1,by omega⟩;have d1:Hid (lO wr q 2=ak):=iB (je cS.out.fields.2.2.1);obtain⟨A5,c5,cx,_,_⟩:=ji NS.out.oa.own;subst cx;obtain⟨A6,c6,e0,_,_⟩:=ji NS.out.oe.own;subst e0;have HC:=iB (nK cS.out ⟨#[97,115,115,117,109,101]⟩);obtain⟨zk,b8⟩:∃z,jq ⟨#[97,115,115,117,109,101]⟩ (L.drop ak)=z:=⟨_,rfl⟩;rw[b8]at HC;have HA:=iB b8;clear b8;go_wp2_with fail;refine HC.out.mono ?_;clear HC;rintro e ca ⟨rfl,aN⟩;have ch:=iB (cS.out.after aN);have c4:ik (iz q wr) (iz q ca):=im (q:=q) aN;have dA:=ij e6 c4;have cj:=cV;clear aN;replace NS:Hid (xm n1 b3 F ca s a' ⟨oA,oc,ol⟩ ⟨kA,kc,kl⟩ (.slice A5 J.length c5) (.slice A6 I.length c6) J I):=NS.out.iv ag ai c4;replace a_:=jW a_ (lZ c4);cases zk
 ·skip
  have HC:=iB (nK ch.out ⟨#[101,110,115,117,114,101]⟩);obtain⟨zk,b8⟩:∃z,jq ⟨#[101,110,115,117,114,101]⟩ (L.drop ak)=z:=⟨_,rfl⟩;rw[b8]at HC;have HE:=iB b8;clear b8;go_wp2_with fail;refine HC.out.mono ?_;clear HC;rintro e bz ⟨rfl,aN⟩;have bP:=iB (ch.out.after aN);have b':ik (iz q ca) (iz q bz):=im (q:=q) aN;have cg:=ij dA b';have bJ:=cj;clear aN;replace NS:Hid (xm n1 b3 F bz s a' ⟨oA,oc,ol⟩ ⟨kA,kc,kl⟩ (.slice A5 J.length c5) (.slice A6 I.length c6) J I):=NS.out.iv ag ai b';replace a_:=jW a_ (lZ b');cases zk
  ·skip
   obtain⟨nA,nc,nl⟩:=a';simp only[]at HX;replace HX:Hid (X=qD el k s (nl.map iO.er) (ol.map iO.er) (kl.map iO.er) (J.map Tx.er,I.map Tx.er) (L.drop ak)):=by (show _=_;rw[HX.out,Q2 HA.out HE.out])
   replace HX:Hid (X=(iF [⟨#[108,101,116]⟩] (L.drop ak)).bind fun (_,r)=>(mu el k 3 [] [] r).bind fun (b,r)=>(iF [⟨#[116,101,108]⟩] r).bind fun (_,r)=>some (⟨s,nl.map iO.er,ol.map iO.er,kl.map iO.er,b.1,b.2,J.map Tx.er,I.map Tx.er⟩,r)):=HX.out;go_wp2_with fail;refine td (jH bP.out [⟨#[108,101,116]⟩] (by decide)) HX cg bJ ?_;clear HX;intro b4 eN eS i23 dd bu HX bp dn aR bO;subst dd;replace NS:Hid (xm n1 b3 F b4 s ⟨nA,nc,nl⟩ ⟨oA,oc,ol⟩ ⟨kA,kc,kl⟩ (.slice A5 J.length c5) (.slice A6 I.length c6) J I):=NS.out.iv ag ai aR;replace a_:=jW a_ (lZ aR);have aT:∀b,F b=true->b<b4.heap.size:=NS.out.fam.lim;have b7:n1<=b4.heap.size:=a_;have fg:ak<=i23:=dn;go_wp2_with fail;refine td (MM htag hel k bu.out (by omega)) HX bO bp ?_;clear HX;intro aa eM eR dX dc bt HX bf ev aV bj;obtain⟨bc,bb,es,be,bd,b0,rfl,ds,du,dE,dG,fb,fe⟩:=dc;have dr:=iB ds;have dt:=iB du;clear ds du;replace NS:Hid (xm n1 b3 F aa s ⟨nA,nc,nl⟩ ⟨oA,oc,ol⟩ ⟨kA,kc,kl⟩ (.slice A5 J.length c5) (.slice A6 I.length c6) J I):=NS.out.iv ag ai aV;replace a_:=jW a_ (lZ aV);have DE:Hid (ir 7 (xv True) (old n1 aa) ⟨bc,bb,es⟩):=iB (dE.sub uU (iS b7 aa));have DA:Hid (ir 1 (xM True) (old n1 aa) ⟨be,bd,b0⟩):=iB (v_ wY dG (iS b7 aa));clear dE dG b7 aT;have hP:∀W b o (y:Tx),JV W y->(∀j u,(jj y)[j]?=some u->W.cell? ⟨b,o+j,none⟩=some u)->Bu True W b o y:=fun W b o y hy hj=>Q3 hy hj
   have D1:Hid (ir 3 jG (old n1 aa) ⟨nA,nc,nl⟩):=iB (NS.out.ri.sub ky (sZ aa NS.out.fam.low));have D2:Hid (ir 3 jG (old n1 aa) ⟨oA,oc,ol⟩):=iB (NS.out.ro.sub ky (sZ aa NS.out.fam.low));have D3:Hid (ir 3 jG (old n1 aa) ⟨kA,kc,kl⟩):=iB (NS.out.rl.sub ky (sZ aa NS.out.fam.low));have D6:Hid (ir 6 (Bu True) (old n1 aa) ⟨A5,c5,J⟩):=iB (NS.out.oa.row tu NS.out.fam.low (fun _=>rfl) (by omega) hP);have D7:Hid (ir 6 (Bu True) (old n1 aa) ⟨A6,c6,I⟩):=iB (NS.out.oe.row tu NS.out.fam.low (fun _=>rfl) (by omega) hP);have ah:iP aa b3 65 #[s,.slice nA nl.length nc,.slice oA ol.length oc,.slice kA kl.length kc,.slice none 0 0,.slice none 0 0,(.slice A5 J.length c5),(.slice A6 I.length c6)]:=NS.out.blk;obtain⟨m0,m1,m2,m3,m4,m5,m6,m7⟩:=sX ah;have ml:=jo ah;obtain⟨aQ,aP,aO,aL,aK,aJ,aI,aH⟩:=tC ah;obtain⟨ax,br,c_,bG,B3,aG,dL,dK,dJ,dD,dF,dI,dH⟩:∃z,(aa.setCell ⟨b3,4,none⟩ (.slice bc es.length bb)).setCell ⟨b3,5,none⟩ (.slice be b0.length bd)=z/\Hid (Rd B q A c L en eA ec el z dX)/\ik (iz q w0) (iz q z)/\Hid (iP z b3 65 #[s,.slice nA nl.length nc,.slice oA ol.length oc,.slice kA kl.length kc,(.slice bc es.length bb),(.slice be b0.length bd),(.slice A5 J.length c5),(.slice A6 I.length c6)])/\n1<=z.heap.size/\Hid (ir 3 jG (old n1 z) ⟨nA,nc,nl⟩)/\Hid (ir 3 jG (old n1 z) ⟨oA,oc,ol⟩)/\Hid (ir 3 jG (old n1 z) ⟨kA,kc,kl⟩)/\Hid (ir 7 (xv True) (old n1 z) ⟨bc,bb,es⟩)/\Hid (ir 1 (xM True) (old n1 z) ⟨be,bd,b0⟩)/\Hid (ir 6 (Bu True) (old n1 z) ⟨A5,c5,J⟩)/\Hid (ir 6 (Bu True) (old n1 z) ⟨A6,c6,I⟩):=⟨_,rfl,(bt.out.set ai (by omega) _ _).set ai (by omega) _ _,iJ (k:=ko bh) (h:=iJ (k:=ko bh) (h:=bj) _ _) _ _,(ah.jx 4 _).jx 5 _,by rw[jc,jc];exact a_,iB ((D1.out.below iM (j' (by omega) _ _ _).below).below iM (j' (by omega) _ _ _).below),iB ((D2.out.below iM (j' (by omega) _ _ _).below).below iM (j' (by omega) _ _ _).below),iB ((D3.out.below iM (j' (by omega) _ _ _).below).below iM (j' (by omega) _ _ _).below),iB ((DE.out.below mX (j' (by omega) _ _ _).below).below mX (j' (by omega) _ _ _).below),iB ((DA.out.below si (j' (by omega) _ _ _).below).below si (j' (by omega) _ _ _).below),iB ((D6.out.below nH (j' (by omega) _ _ _).below).below nH (j' (by omega) _ _ _).below),iB ((D7.out.below nH (j' (by omega) _ _ _).below).below nH (j' (by omega) _ _ _).below)⟩
   have bI:=bf;clear a_ NS;have a_:=aG;clear aG;replace D1:=dL;replace D2:=dK;replace D3:=dJ;replace DE:=dD;replace DA:=dF;replace D6:=dI;replace D7:=dH;clear dL dK dJ dD dF dI dH;go_wp2_with fail;try rw[br]
   clear br ah m0 m1 m2 m3 m4 m5 m6 m7 ml aQ aP aO aL aK aJ aI aH;go_wp2_with fail;refine td (jH c_.out [⟨#[116,101,108]⟩] (by decide)) HX bG bI ?_;clear HX;intro b6 eL eQ cZ db e_ HX cU eu aU dz;subst db;replace B3:Hid (iP b6 b3 65 #[s,.slice nA nl.length nc,.slice oA ol.length oc,.slice kA kl.length kc,(.slice bc es.length bb),(.slice be b0.length bd),(.slice A5 J.length c5),(.slice A6 I.length c6)]):=iB (kq B3.out ai aU);replace D1:Hid (ir 3 jG (old n1 b6) ⟨nA,nc,nl⟩):=iB (D1.out.below iM (kj ag aU).below);replace D2:Hid (ir 3 jG (old n1 b6) ⟨oA,oc,ol⟩):=iB (D2.out.below iM (kj ag aU).below);replace D3:Hid (ir 3 jG (old n1 b6) ⟨kA,kc,kl⟩):=iB (D3.out.below iM (kj ag aU).below);replace DE:Hid (ir 7 (xv True) (old n1 b6) ⟨bc,bb,es⟩):=iB (DE.out.below mX (kj ag aU).below);replace DA:Hid (ir 1 (xM True) (old n1 b6) ⟨be,bd,b0⟩):=iB (DA.out.below si (kj ag aU).below);replace D6:Hid (ir 6 (Bu True) (old n1 b6) ⟨A5,c5,J⟩):=iB (D6.out.below nH (kj ag aU).below);replace D7:Hid (ir 6 (Bu True) (old n1 b6) ⟨A6,c6,I⟩):=iB (D7.out.below nH (kj ag aU).below);have aG:n1<=b6.heap.size:=by have h1:=lZ aU;omega
   have ao:Hid (X=some (D8.mk s (nl.map iO.er) (ol.map iO.er) (kl.map iO.er) (es.map oX.er) (b0.map AuT.er) (J.map Tx.er) (I.map Tx.er),L.drop cZ)):=by (show _=_;rw[dr.out,dt.out];exact HX.out)
   have ah:=B3.out;obtain⟨m0,m1,m2,m3,m4,m5,m6,m7⟩:=sX ah;have ml:=jo ah;obtain⟨aQ,aP,aO,aL,aK,aJ,aI,aH⟩:=tC ah;have bK:iP b6 r 65 #[.string ⟨#[]⟩,.slice none 0 0,.slice none 0 0,.slice none 0 0,.slice none 0 0,.slice none 0 0,.slice none 0 0,.slice none 0 0]:=lM (HB.out.after (k:=dz)) cA;obtain⟨eK,eJ,eI,eH,eG,eF,eE,eD⟩:=sX bK;have eC:=jo bK;obtain⟨ej,ei,eh,eg,ef,ee,ed,eb⟩:=tC bK;obtain⟨W,dv,EW,an,aW,oW,sW⟩:=tR (zs:=[.string ⟨#[]⟩,.slice none 0 0,.slice none 0 0,.slice none 0 0,.slice none 0 0,.slice none 0 0,.slice none 0 0,.slice none 0 0]) bK e_.out cA (ij (im aw0) dz) (lI hr) (by omega) [.string s,.slice nA nl.length nc,.slice oA ol.length oc,.slice kA kl.length kc,(.slice bc es.length bb),(.slice be b0.length bd),(.slice A5 J.length c5),(.slice A6 I.length c6)] rfl;have hW:((((((((b6.setCell r (.string s)).setCell ⟨r,1,none⟩ (.slice nA nl.length nc)).setCell ⟨r,2,none⟩ (.slice oA ol.length oc)).setCell ⟨r,3,none⟩ (.slice kA kl.length kc)).setCell ⟨r,4,none⟩ ((.slice bc es.length bb))).setCell ⟨r,5,none⟩ ((.slice be b0.length bd))).setCell ⟨r,6,none⟩ ((.slice A5 J.length c5))).setCell ⟨r,7,none⟩ ((.slice A6 I.length c6)))=W:=dv;clear dv;have al:=iB hW;clear hW;go_wp2_with fail;try rw[al.out]
   obtain⟨u0,u1,u2,u3,u4,u5,u6,u7⟩:=sX EW;exact jR (v:=.agg #[s,.slice nA nl.length nc,.slice oA ol.length oc,.slice kA kl.length kc,(.slice bc es.length bb),(.slice be b0.length bd),(.slice A5 J.length c5),(.slice A6 I.length c6)]) (by simp[results,results36,go_sem,u0,u1,u2,u3,u4,u5,u6,u7]) rfl (lN (x:=D8.mk s (nl.map iO.er) (ol.map iO.er) (kl.map iO.er) (es.map oX.er) (b0.map AuT.er) (J.map Tx.er) (I.map Tx.er)) (show X=some (D8.mk s (nl.map iO.er) (ol.map iO.er) (kl.map iO.er) (es.map oX.er) (b0.map AuT.er) (J.map Tx.er) (I.map Tx.er),L.drop cZ) from ao.out) aW (⟨(nh.mk s ⟨nA,nc,nl⟩ ⟨oA,oc,ol⟩ ⟨kA,kc,kl⟩ ⟨bc,bb,es⟩ ⟨be,bd,b0⟩ ⟨A5,c5,J⟩ ⟨A6,c6,I⟩),rfl,rfl,uz.sub _ _ _ (iS (show w.heap.size<=n1 by omega) W) (JY.mk hS.out (D1.out.below iM (oW n1 (by omega)).below) (D2.out.below iM (oW n1 (by omega)).below) (D3.out.below iM (oW n1 (by omega)).below) (DE.out.below mX (oW n1 (by omega)).below) (DA.out.below si (oW n1 (by omega)).below) (D6.out.below nH (oW n1 (by omega)).below) (D7.out.below nH (oW n1 (by omega)).below))⟩) an rfl (cU.out))
  have fi:Hid (jq ⟨#[97,115,115,117,109,101]⟩ (L.drop ak)=false):=HA;have HC:=iB (nK bP.out ⟨#[97,115,115,117,109,101]⟩);rw[HA.out]at HC;go_wp2_with fail;refine HC.out.mono ?_;clear HC;rintro e b4 ⟨rfl,aN⟩;have bu:=iB (bP.out.after aN);have aR:ik (iz q bz) (iz q b4):=im (q:=q) aN;have bO:=ij cg aR;have bp:=bJ;clear aN;replace NS:Hid (xm n1 b3 F b4 s a' ⟨oA,oc,ol⟩ ⟨kA,kc,kl⟩ (.slice A5 J.length c5) (.slice A6 I.length c6) J I):=NS.out.iv ag ai aR;replace a_:=jW a_ (lZ aR);have ah:=NS.out.blk;obtain⟨m0,m1,m2,m3,m4,m5,m6,m7⟩:=sX ah;have ml:=jo ah;obtain⟨aQ,aP,aO,aL,aK,aJ,aI,aH⟩:=tC ah;have HC:=iB (mF bu.out (I.length:Int) 8);go_wp2_with fail;refine HC.out.mono ?_;clear HC ah m0 m1 m2 m3 m4 m5 m6 m7 ml aQ aP aO aL aK aJ aI aH;rintro e aa ⟨aN,hE⟩;have bt:=iB (bu.out.after aN);have aV:ik (iz q b4) (iz q aa):=im (q:=q) aN;have bj:=ij bO aV;have bf:=bp;clear aN;replace NS:Hid (xm n1 b3 F aa s a' ⟨oA,oc,ol⟩ ⟨kA,kc,kl⟩ (.slice A5 J.length c5) (.slice A6 I.length c6) J I):=NS.out.iv ag ai aV;replace a_:=jW a_ (lZ aV);rcases hE with⟨hlt4,rfl⟩ | ⟨hge4,hf⟩
  ·skip
   have bn:=pI HE.out;replace HX:Hid (X=(jg el k (L.drop (ak+1))).bind fun (x,r)=>(iF [⟨#[59]⟩] r).bind fun (_,r)=>(ox el k f (J.map Tx.er) (I.map Tx.er++[x]) r).bind fun (cl,r)=>qD el k s (a'.l.map iO.er) (ol.map iO.er) (kl.map iO.er) cl r):=by (show _=_;rw[HX.out,Qs HA.out HE.out (by rw[pE];omega),tail_drop])
   obtain⟨c0,c1,cL,c3,f2,l0⟩:=bt.out.fields;have dq:=bt.out.few;obtain⟨ax,br,c_,bG,ct⟩:∃z,aa.setCell ⟨q,2,none⟩ (.int .i64 ((ak:Int)+1))=z/\Hid (Rd B q A c L en eA ec el z (ak+1))/\ik (iz q w0) (iz q z)/\ik (iz q aa) (iz q z):=⟨_,rfl,bt.out.move (j:=ak+1) bn,by rw[jJ];exact bj,by rw[jJ];exact iq _⟩;have bI:Hid (i0<=ak+1):=iB (wc bf.out);go_upto_region 15 with fail
   try rw[br]
   clear br c0 c1 cL c3 f2 l0;replace NS:Hid (xm n1 b3 F ax s a' ⟨oA,oc,ol⟩ ⟨kA,kc,kl⟩ (.slice A5 J.length c5) (.slice A6 I.length c6) J I):=NS.out.iv ag ai ct;replace a_:=jW a_ (lZ ct);go_cut [] (fun wx=>∃(i':Nat) (y:Tx) (F:Nat->Bool) (vA vE:Value) (W:World),W=wx/\Hid (i0<=i')/\ak+1<=i'/\Hid (X=(iF [⟨#[59]⟩] (L.drop i')).bind fun (_,r)=>(ox el k f (J.map Tx.er) ((I++[y]).map Tx.er) r).bind fun (cl,r)=>qD el k s (a'.l.map iO.er) (ol.map iO.er) (kl.map iO.er) cl r)/\Hid (Rd B q A c L en eA ec el W i')/\ik (iz q w0) (iz q W)/\n1<=W.heap.size/\Hid (xm n1 b3 F W s a' ⟨oA,oc,ol⟩ ⟨kA,kc,kl⟩ vA vE J (I++[y])))
   case first=>
    have b2:=NS.out;have HC:Hid (∀U,ik ax U->Calls prog 71 #[.pointer (some q)] U (pk B q A c L en eA ec el U (ak+1) (jg el k (L.drop (ak+1))) (VX U.heap.size))):=fun U hU=>wA htag hel k (c_.out.after hU) (by omega)
    generalize bZ:jg el k (L.drop (ak+1))=Y at HC HX;have HK:Hid (∀U,ik (iz q ax) (iz q U)->U.cell? ⟨b3,7,none⟩=some (.slice A6 I.length c6)):=fun U hU=>((kq b2.blk ai hU).cell 7).trans rfl
    have l3:=jo b2.blk;refine jm (fun U:World=>U.cell? ⟨b3,7,none⟩=some (.slice A6 I.length c6)) [7,8,9,10,11] (by kernel_rfl) ?_;have aY:(fun U:World=>U.cell? ⟨b3,7,none⟩=some (.slice A6 I.length c6)) ax.drew:=HK.out _ inferInstance;refine wT 0 [1,2,5,7,8,9,10,11] (.pointer (some ⟨b3,7,none⟩)) aY ?_;try simp only[Act.put,oF,oB,oq]
    refine wT 1 [2,5,7,8,9,10,11] (.pointer (some ⟨b3,7,none⟩)) aY ?_;try simp only[Act.put,oF,oB,oq]
    refine wT 2 [5,7,8,9,10,11] ((.slice A6 I.length c6)) aY ?_;try simp only[Act.put,oF,oB,oq]
    refine wT 3 [4,7,8,9,10,11] (.pointer (some q)) aY ?_;try simp only[Act.put,oF,oB,oq]
    refine wT 5 [7,8,9,10,11] (.int .i64 (I.length:Nat)) aY ?_;try simp only[Act.put,oF,oB,oq]
    clear aY;refine jX (rs:=[4,6]) (by kernel_rfl) (by decide) ?_;intro i hi;simp only[la]at hi;rcases hi with rfl | rfl
    ·skip
     refine jE rfl rfl ?_;go_simp;go_at_call 71;refine (HC.out _ inferInstance).mono ?_;clear HC;rintro e w9 ⟨aZ,hY⟩;have aM:ik (iz q ax) (iz q w9):=ij (im inferInstance) aZ;cases Y with
     |none=>
      obtain⟨a,er,rfl,he⟩:=hY;unfold oD;exact⟨rfl,kf HX.out (ij (im aw0) (ij bG aM)) (jz a er he)⟩
     |some yy=>
     obtain⟨x9,r9⟩:=yy;obtain⟨v9,i9,rfl,bg,R9,bD,b5⟩:=hY;subst bD;obtain⟨⟨k9,o9,t9,z9,s9,A9,c9,R⟩,az,rfl,D9⟩:=bg;rw[JQ k9 o9 t9 z9 s9 A9 c9 R];have b_:=iB (C' htag hel az bZ (by rw[nY];have:=R9.few;omega));have az:=iB az;refine kS (HK.out _ aM) ?_;refine lH 6 ?_;go_simp;obtain⟨ar,aw,bm,b1,aX,af,bH,ay,bq⟩:∃z,w9.alloc (.cells #[.int .i64 0,.int .i64 0,.int .i64 0,.int .i64 0,.string ⟨#[]⟩,.slice none 0 0] 73)=z/\Rd B q A c L en eA ec el z i9/\ik (iz q w0) (iz q z)/\ik (iz q ax) (iz q z)/\xm n1 b3 F z s a' ⟨oA,oc,ol⟩ ⟨kA,kc,kl⟩ (.slice A5 J.length c5) (.slice A6 I.length c6) J I/\RX (old ax.heap.size z) (.mk k9 o9 t9 z9 s9 A9 c9 R)/\oZ z (w9.heap.size+1) 6 (some ⟨w9.heap.size,0,none⟩) 1 (jj oE)/\w9.heap.size<z.heap.size:=⟨_,rfl,R9.after inferInstance,ij (ij bG aM) (im inferInstance),ij aM (im inferInstance),(b2.iv ag ai aM).after inferInstance,D9.below (jK inferInstance).below,uY (jC ..) _ rfl 1 6 rfl,by rw[iH];omega⟩;have aT:∀b,F b=true->b<ax.heap.size:=b2.fam.lim;try rw[aw]
     clear aw;refine kS (HK.out _ aX) ?_;have bF:JV (kK F ar) (Tx.mk k9 o9 t9 z9 s9 A9 c9 R):=⟨bH.sub (nO ar aT),b_.out.1,b_.out.2⟩;have cC:I.length<=8:=by omega
     have nz:n1<=ar.heap.size:=by have h1:=b1;have h2:=lZ aX;omega
     refine lH 7 ?_;obtain⟨bB,aF,aE,aD,aC⟩:=info_parts qs;refine jZ ar (.tmp 54) (.tmp 58) 63 rfl n1 73 bB _ 6 _ underlying63 aF aE aD aC rfl (by decide) (.slice A6 I.length c6) I.length (I.flatMap jj) rfl af.oe.own _ _ 1 1 (jj oE) rfl ay (by intro u hu;simp only[jj,oE,txs,la]at hu;rcases hu with rfl | rfl | rfl | rfl | rfl | rfl<;>rfl) (by unfold maxLen;omega) (by omega) nz ?_;intro v5 w11 au av bE;clear aF aE aD aC;obtain⟨r5,aB,rfl,cB,b9,ba⟩:=af.Sz bF au av bE;have bl:=bm.grown af.oe.own av ag cd;have bk:=kF b1 af.oe.own av ag cc;have aS:iP w11 b3 65 #[s,a'.val,.slice oA ol.length oc,.slice kA kl.length kc,.slice none 0 0,.slice none 0 0,(.slice A5 J.length c5),(.slice A6 I.length c6)]:=oY af.blk av fun e'=>by have:=(af.oe.lt e'.symm).1;omega
     have aq:r5≠q:=by omega
     have bA:r5≠b3:=by omega
     have fr:∀j,w11.frozen? ⟨r5,j,none⟩=false:=fun j=>au.frozenAt j
     have cz:∀j u,(jj oE)[j]?=some u->w11.cell? ⟨r5,I.length*6+j,none⟩=some u:=fun j u hu=>by
      have h1:=au.cells (g:=r5) rfl (I.length*6+j) u (by rw[xK (by rw[show (I.flatMap jj).length=I.length*6 from pU I];omega),show (I.flatMap jj).length=I.length*6 from pU I,Nc];exact hu);rwa [yb,t_]at h1
     have z0:w11.cell? ⟨r5,I.length*6,none⟩=some (.int .i64 0):=cz 0 _ rfl;have z1:w11.cell? ⟨r5,I.length*6+1,none⟩=some (.int .i64 0):=cz 1 _ rfl;have z2:w11.cell? ⟨r5,I.length*6+2,none⟩=some (.int .i64 0):=cz 2 _ rfl;have z3:w11.cell? ⟨r5,I.length*6+3,none⟩=some (.int .i64 0):=cz 3 _ rfl;have z4:w11.cell? ⟨r5,I.length*6+4,none⟩=some (.string ⟨#[]⟩):=cz 4 _ rfl;have z5:w11.cell? ⟨r5,I.length*6+5,none⟩=some (.slice none 0 0):=cz 5 _ rfl;have cK:w11.frozen? ⟨r5,I.length*6,none⟩=false:=fr _;have cJ:w11.frozen? ⟨r5,I.length*6+1,none⟩=false:=fr _;have cI:w11.frozen? ⟨r5,I.length*6+2,none⟩=false:=fr _;have cH:w11.frozen? ⟨r5,I.length*6+3,none⟩=false:=fr _;have cG:w11.frozen? ⟨r5,I.length*6+4,none⟩=false:=fr _;have cF:w11.frozen? ⟨r5,I.length*6+5,none⟩=false:=fr _;have cu:Le (r5+1) w11:=⟨b9⟩;clear cz fr;obtain⟨m0,m1,m2,m3,m4,m5,m6,m7⟩:=sX aS;have ml:=jo aS;obtain⟨aQ,aP,aO,aL,aK,aJ,aI,aH⟩:=tC aS;have hW:∃W,(od w11 r5 (I.length*6) (Tx.mk k9 o9 t9 z9 s9 A9 c9 R)).setCell ⟨b3,7,none⟩ (.slice (some r5) (I.length+1) aB)=W/\Hid (Rd B q A c L en eA ec el W i9)/\ik (iz q w0) (iz q W)/\n1<=W.heap.size/\Hid (xm n1 b3 (iD F (.slice (some r5) (I.length+1) aB)) W s a' ⟨oA,oc,ol⟩ ⟨kA,kc,kl⟩ (.slice A5 J.length c5) (.slice (some r5) (I.length+1) aB) J (I++[(Tx.mk k9 o9 t9 z9 s9 A9 c9 R)])):=⟨_,rfl,by unfold od;exact ((((((bl.set aq (by omega) _ _).set aq (by omega) _ _).set aq (by omega) _ _).set aq (by omega) _ _).set aq (by omega) _ _).set aq (by omega) _ _).set ai (by omega) _ _,by unfold od;exact iJ (k:=ko bh) (h:=iJ (k:=ko (by omega)) (h:=iJ (k:=ko (by omega)) (h:=iJ (k:=ko (by omega)) (h:=iJ (k:=ko (by omega)) (h:=iJ (k:=ko (by omega)) (h:=iJ (k:=ko (by omega)) (h:=bk) _ _) _ _) _ _) _ _) _ _) _ _) _ _,by rw[jc,th];exact jW nz av.size,ba⟩
     obtain⟨W,hW,an,aW,nW,ae⟩:=hW;have aA:od (w11.setCell ⟨b3,7,none⟩ (.slice (some r5) (I.length+1) aB)) r5 (I.length*6) (Tx.mk k9 o9 t9 z9 s9 A9 c9 R)=W:=by rw[xr _ bA];exact hW
     unfold od at hW aA;simp only[txs]at hW aA;have e9:((I++[(Tx.mk k9 o9 t9 z9 s9 A9 c9 R)]).map Tx.er)=I.map Tx.er++[x9]:=by rw[s_,<- az.out];rfl
     have ao:Hid (X=(iF [⟨#[59]⟩] (L.drop i9)).bind fun (_,r)=>(ox el k f (J.map Tx.er) ((I++[(Tx.mk k9 o9 t9 z9 s9 A9 c9 R)]).map Tx.er) r).bind fun (cl,r)=>qD el k s (a'.l.map iO.er) (ol.map iO.er) (kl.map iO.er) cl r):=by (show _=_;rw[e9];exact HX.out)
     clear e9;have bX:(I.length:Int)<(I.length:Int)+1:=by omega
     have bW:¬((I.length:Int)+1<=(I.length:Int)):=by omega
     have bV:(0:Int)<=(I.length:Int):=by omega
     have aj:Hid (i0<=i9):=iB (jW bI.out b5);have ab:ak+1<=i9:=b5;have al:=iB hW;have ad:=iB aA;clear hW aA;try refine kL ?_
     refine jX (rs:=[8,10]) (by kernel_rfl) (by decide) ?_;intro i hi;simp only[la]at hi;rcases hi with rfl | rfl
     ·skip
      refine jE rfl rfl ?_;go_simp;try refine kL ?_
      refine jX (rs:=[9,10]) (by kernel_rfl) (by decide) ?_;intro i hi;simp only[la]at hi;rcases hi with rfl | rfl
      ·skip
       refine jE rfl rfl ?_;go_simp;try refine kL ?_
       refine lH 10 ?_;go_simp;try refine kL ?_
       refine lH 11 ?_;go_simp;try refine kL ?_
       first | rw[al.out] | rw[ad.out]
       refine iT (by kernel_rfl) ?_ _;go_wp2_with fail;go_meet;exact⟨i9,(Tx.mk k9 o9 t9 z9 s9 A9 c9 R),_,_,_,_,rfl,aj,ab,ao,an,aW,nW,ae⟩
      refine jE rfl rfl ?_;go_simp;try refine kL ?_
      refine jX (rs:=[9,11]) (by kernel_rfl) (by decide) ?_;intro i hi;simp only[la]at hi;rcases hi with rfl | rfl
      ·skip
       refine jE rfl rfl ?_;go_simp;try refine kL ?_
       refine lH 11 ?_;go_simp;try refine kL ?_
       first | rw[al.out] | rw[ad.out]
       refine iT (by kernel_rfl) ?_ _;go_wp2_with fail;go_meet;exact⟨i9,(Tx.mk k9 o9 t9 z9 s9 A9 c9 R),_,_,_,_,rfl,aj,ab,ao,an,aW,nW,ae⟩
      refine jE rfl rfl ?_;go_simp;try refine kL ?_
      refine lH 9 ?_;go_simp;try refine kL ?_
      first | rw[al.out] | rw[ad.out]
      refine iT (by kernel_rfl) ?_ _;go_wp2_with fail;go_meet;exact⟨i9,(Tx.mk k9 o9 t9 z9 s9 A9 c9 R),_,_,_,_,rfl,aj,ab,ao,an,aW,nW,ae⟩
     refine jE rfl rfl ?_;go_simp;try refine kL ?_
     refine jX (rs:=[8,11]) (by kernel_rfl) (by decide) ?_;intro i hi;simp only[la]at hi;rcases hi with rfl | rfl
     ·skip
      refine jE rfl rfl ?_;go_simp;try refine kL ?_
      refine jX (rs:=[9,11]) (by kernel_rfl) (by decide) ?_;intro i hi;simp only[la]at hi;rcases hi with rfl | rfl
      ·skip
       refine jE rfl rfl ?_;go_simp;try refine kL ?_
       refine lH 11 ?_;go_simp;try refine kL ?_
       first | rw[al.out] | rw[ad.out]
       refine iT (by kernel_rfl) ?_ _;go_wp2_with fail;go_meet;exact⟨i9,(Tx.mk k9 o9 t9 z9 s9 A9 c9 R),_,_,_,_,rfl,aj,ab,ao,an,aW,nW,ae⟩
      refine jE rfl rfl ?_;go_simp;try refine kL ?_
      refine lH 9 ?_;go_simp;try refine kL ?_
      first | rw[al.out] | rw[ad.out]
      refine iT (by kernel_rfl) ?_ _;go_wp2_with fail;go_meet;exact⟨i9,(Tx.mk k9 o9 t9 z9 s9 A9 c9 R),_,_,_,_,rfl,aj,ab,ao,an,aW,nW,ae⟩
     refine jE rfl rfl ?_;go_simp;try refine kL ?_
     refine lH 8 ?_;go_simp;try refine kL ?_
     refine lH 9 ?_;go_simp;try refine kL ?_
     first | rw[al.out] | rw[ad.out]
     refine iT (by kernel_rfl) ?_ _;go_wp2_with fail;go_meet;exact⟨i9,(Tx.mk k9 o9 t9 z9 s9 A9 c9 R),_,_,_,_,rfl,aj,ab,ao,an,aW,nW,ae⟩
    refine jE rfl rfl ?_;go_simp;obtain⟨w8,bS,o8,cw,d_⟩:∃z,(ax.alloc (.cells #[.int .i64 0,.int .i64 0,.int .i64 0,.int .i64 0,.string ⟨#[]⟩,.slice none 0 0] 73)).drew=z/\ik ax z/\iP z ax.heap.size 73 #[.int .i64 0,.int .i64 0,.int .i64 0,.int .i64 0,.string ⟨#[]⟩,.slice none 0 0]/\ax.heap.size<z.heap.size:=⟨_,rfl,inferInstance,(jC ..).drew,by rw[xy,iH];omega⟩;try rw[bS]
    clear bS
    (first | refine⟨(by first | exact HK.out _ (im o8) | exact HK.out _ (iq _)),?_⟩ | refine⟨fun _=>(by first | exact HK.out _ (im o8) | exact HK.out _ (iq _)),?_⟩)
    refine lH 4 ?_;go_simp;go_at_call 71;refine (HC.out _ inferInstance).mono ?_;clear HC;rintro e w9 ⟨aZ,hY⟩;have aM:ik (iz q ax) (iz q w9):=ij (im inferInstance) aZ;cases Y with
    |none=>
     obtain⟨a,er,rfl,he⟩:=hY;unfold oD;exact⟨rfl,kf HX.out (ij (im aw0) (ij bG aM)) (jz a er he)⟩
    |some yy=>
    obtain⟨x9,r9⟩:=yy;obtain⟨v9,i9,rfl,bg,R9,bD,b5⟩:=hY;subst bD;obtain⟨⟨k9,o9,t9,z9,s9,A9,c9,R⟩,az,rfl,D9⟩:=bg;rw[JQ k9 o9 t9 z9 s9 A9 c9 R];have b_:=iB (C' htag hel az bZ (by rw[nY];have:=R9.few;omega));have az:=iB az;refine kS (HK.out _ aM) ?_;have bU:ax.heap.size≠q:=by have:=c_.out.blk.lt;omega
    have bC:iP w9 ax.heap.size 73 #[.int .i64 0,.int .i64 0,.int .i64 0,.int .i64 0,.string ⟨#[]⟩,.slice none 0 0]:=kq cw bU aZ;have ay:oZ w9 (ax.heap.size+1) 6 (some ⟨ax.heap.size,0,none⟩) 1 (jj oE):=uY bC _ rfl 1 6 rfl;have bq:ax.heap.size<w9.heap.size:=bC.lt;have aT:∀b,F b=true->b<ax.heap.size:=b2.fam.lim;obtain⟨ar,aw⟩:∃z,z=w9:=⟨_,rfl⟩;rw[<- aw]at ay bq R9 D9 aM⊢;clear aw bC aZ;have bm:=R9;have b1:=ij bG aM;have aX:=aM;have af:=b2.iv ag ai aM;have bH:RX (old ax.heap.size ar) (.mk k9 o9 t9 z9 s9 A9 c9 R):=D9.sub (iS o8.below.size ar);have bF:JV (kK F ar) (Tx.mk k9 o9 t9 z9 s9 A9 c9 R):=⟨bH.sub (nO ar aT),b_.out.1,b_.out.2⟩;have cC:I.length<=8:=by omega
    have nz:n1<=ar.heap.size:=by have h1:=b1;have h2:=lZ aX;omega
    refine lH 7 ?_;obtain⟨bB,aF,aE,aD,aC⟩:=info_parts qs;refine jZ ar (.tmp 54) (.tmp 58) 63 rfl n1 73 bB _ 6 _ underlying63 aF aE aD aC rfl (by decide) (.slice A6 I.length c6) I.length (I.flatMap jj) rfl af.oe.own _ _ 1 1 (jj oE) rfl ay (by intro u hu;simp only[jj,oE,txs,la]at hu;rcases hu with rfl | rfl | rfl | rfl | rfl | rfl<;>rfl) (by unfold maxLen;omega) (by omega) nz ?_;intro v5 w11 au av bE;clear aF aE aD aC;obtain⟨r5,aB,rfl,cB,b9,ba⟩:=af.Sz bF au av bE;have bl:=bm.grown af.oe.own av ag cd;have bk:=kF b1 af.oe.own av ag cc;have aS:iP w11 b3 65 #[s,a'.val,.slice oA ol.length oc,.slice kA kl.length kc,.slice none 0 0,.slice none 0 0,(.slice A5 J.length c5),(.slice A6 I.length c6)]:=oY af.blk av fun e'=>by have:=(af.oe.lt e'.symm).1;omega
    have aq:r5≠q:=by omega
    have bA:r5≠b3:=by omega
    have fr:∀j,w11.frozen? ⟨r5,j,none⟩=false:=fun j=>au.frozenAt j
    have cz:∀j u,(jj oE)[j]?=some u->w11.cell? ⟨r5,I.length*6+j,none⟩=some u:=fun j u hu=>by
     have h1:=au.cells (g:=r5) rfl (I.length*6+j) u (by rw[xK (by rw[show (I.flatMap jj).length=I.length*6 from pU I];omega),show (I.flatMap jj).length=I.length*6 from pU I,Nc];exact hu);rwa [yb,t_]at h1
    have z0:w11.cell? ⟨r5,I.length*6,none⟩=some (.int .i64 0):=cz 0 _ rfl;have z1:w11.cell? ⟨r5,I.length*6+1,none⟩=some (.int .i64 0):=cz 1 _ rfl;have z2:w11.cell? ⟨r5,I.length*6+2,none⟩=some (.int .i64 0):=cz 2 _ rfl;have z3:w11.cell? ⟨r5,I.length*6+3,none⟩=some (.int .i64 0):=cz 3 _ rfl;have z4:w11.cell? ⟨r5,I.length*6+4,none⟩=some (.string ⟨#[]⟩):=cz 4 _ rfl;have z5:w11.cell? ⟨r5,I.length*6+5,none⟩=some (.slice none 0 0):=cz 5 _ rfl;have cK:w11.frozen? ⟨r5,I.length*6,none⟩=false:=fr _;have cJ:w11.frozen? ⟨r5,I.length*6+1,none⟩=false:=fr _;have cI:w11.frozen? ⟨r5,I.length*6+2,none⟩=false:=fr _;have cH:w11.frozen? ⟨r5,I.length*6+3,none⟩=false:=fr _;have cG:w11.frozen? ⟨r5,I.length*6+4,none⟩=false:=fr _;have cF:w11.frozen? ⟨r5,I.length*6+5,none⟩=false:=fr _;have cu:Le (r5+1) w11:=⟨b9⟩;clear cz fr;obtain⟨m0,m1,m2,m3,m4,m5,m6,m7⟩:=sX aS;have ml:=jo aS;obtain⟨aQ,aP,aO,aL,aK,aJ,aI,aH⟩:=tC aS;have hW:∃W,(od w11 r5 (I.length*6) (Tx.mk k9 o9 t9 z9 s9 A9 c9 R)).setCell ⟨b3,7,none⟩ (.slice (some r5) (I.length+1) aB)=W/\Hid (Rd B q A c L en eA ec el W i9)/\ik (iz q w0) (iz q W)/\n1<=W.heap.size/\Hid (xm n1 b3 (iD F (.slice (some r5) (I.length+1) aB)) W s a' ⟨oA,oc,ol⟩ ⟨kA,kc,kl⟩ (.slice A5 J.length c5) (.slice (some r5) (I.length+1) aB) J (I++[(Tx.mk k9 o9 t9 z9 s9 A9 c9 R)])):=⟨_,rfl,by unfold od;exact ((((((bl.set aq (by omega) _ _).set aq (by omega) _ _).set aq (by omega) _ _).set aq (by omega) _ _).set aq (by omega) _ _).set aq (by omega) _ _).set ai (by omega) _ _,by unfold od;exact iJ (k:=ko bh) (h:=iJ (k:=ko (by omega)) (h:=iJ (k:=ko (by omega)) (h:=iJ (k:=ko (by omega)) (h:=iJ (k:=ko (by omega)) (h:=iJ (k:=ko (by omega)) (h:=iJ (k:=ko (by omega)) (h:=bk) _ _) _ _) _ _) _ _) _ _) _ _) _ _,by rw[jc,th];exact jW nz av.size,ba⟩
    obtain⟨W,hW,an,aW,nW,ae⟩:=hW;have aA:od (w11.setCell ⟨b3,7,none⟩ (.slice (some r5) (I.length+1) aB)) r5 (I.length*6) (Tx.mk k9 o9 t9 z9 s9 A9 c9 R)=W:=by rw[xr _ bA];exact hW
    unfold od at hW aA;simp only[txs]at hW aA;have e9:((I++[(Tx.mk k9 o9 t9 z9 s9 A9 c9 R)]).map Tx.er)=I.map Tx.er++[x9]:=by rw[s_,<- az.out];rfl
    have ao:Hid (X=(iF [⟨#[59]⟩] (L.drop i9)).bind fun (_,r)=>(ox el k f (J.map Tx.er) ((I++[(Tx.mk k9 o9 t9 z9 s9 A9 c9 R)]).map Tx.er) r).bind fun (cl,r)=>qD el k s (a'.l.map iO.er) (ol.map iO.er) (kl.map iO.er) cl r):=by (show _=_;rw[e9];exact HX.out)
    clear e9;have bX:(I.length:Int)<(I.length:Int)+1:=by omega
    have bW:¬((I.length:Int)+1<=(I.length:Int)):=by omega
    have bV:(0:Int)<=(I.length:Int):=by omega
    have aj:Hid (i0<=i9):=iB (jW bI.out b5);have ab:ak+1<=i9:=b5;have al:=iB hW;have ad:=iB aA;clear hW aA;try refine kL ?_
    refine jX (rs:=[8,10]) (by kernel_rfl) (by decide) ?_;intro i hi;simp only[la]at hi;rcases hi with rfl | rfl
    ·skip
     refine jE rfl rfl ?_;go_simp;try refine kL ?_
     refine jX (rs:=[9,10]) (by kernel_rfl) (by decide) ?_;intro i hi;simp only[la]at hi;rcases hi with rfl | rfl
     ·skip
      refine jE rfl rfl ?_;go_simp;try refine kL ?_
      refine lH 10 ?_;go_simp;try refine kL ?_
      refine lH 11 ?_;go_simp;try refine kL ?_
      first | rw[al.out] | rw[ad.out]
      refine iT (by kernel_rfl) ?_ _;go_wp2_with fail;go_meet;exact⟨i9,(Tx.mk k9 o9 t9 z9 s9 A9 c9 R),_,_,_,_,rfl,aj,ab,ao,an,aW,nW,ae⟩
     refine jE rfl rfl ?_;go_simp;try refine kL ?_
     refine jX (rs:=[9,11]) (by kernel_rfl) (by decide) ?_;intro i hi;simp only[la]at hi;rcases hi with rfl | rfl
     ·skip
      refine jE rfl rfl ?_;go_simp;try refine kL ?_
      refine lH 11 ?_;go_simp;try refine kL ?_
      first | rw[al.out] | rw[ad.out]
      refine iT (by kernel_rfl) ?_ _;go_wp2_with fail;go_meet;exact⟨i9,(Tx.mk k9 o9 t9 z9 s9 A9 c9 R),_,_,_,_,rfl,aj,ab,ao,an,aW,nW,ae⟩
     refine jE rfl rfl ?_;go_simp;try refine kL ?_
     refine lH 9 ?_;go_simp;try refine kL ?_
     first | rw[al.out] | rw[ad.out]
     refine iT (by kernel_rfl) ?_ _;go_wp2_with fail;go_meet;exact⟨i9,(Tx.mk k9 o9 t9 z9 s9 A9 c9 R),_,_,_,_,rfl,aj,ab,ao,an,aW,nW,ae⟩
    refine jE rfl rfl ?_;go_simp;try refine kL ?_
    refine jX (rs:=[8,11]) (by kernel_rfl) (by decide) ?_;intro i hi;simp only[la]at hi;rcases hi with rfl | rfl
    ·skip
     refine jE rfl rfl ?_;go_simp;try refine kL ?_
     refine jX (rs:=[9,11]) (by kernel_rfl) (by decide) ?_;intro i hi;simp only[la]at hi;rcases hi with rfl | rfl
     ·skip
      refine jE rfl rfl ?_;go_simp;try refine kL ?_
      refine lH 11 ?_;go_simp;try refine kL ?_
      first | rw[al.out] | rw[ad.out]
      refine iT (by kernel_rfl) ?_ _;go_wp2_with fail;go_meet;exact⟨i9,(Tx.mk k9 o9 t9 z9 s9 A9 c9 R),_,_,_,_,rfl,aj,ab,ao,an,aW,nW,ae⟩
     refine jE rfl rfl ?_;go_simp;try refine kL ?_
     refine lH 9 ?_;go_simp;try refine kL ?_
     first | rw[al.out] | rw[ad.out]
     refine iT (by kernel_rfl) ?_ _;go_wp2_with fail;go_meet;exact⟨i9,(Tx.mk k9 o9 t9 z9 s9 A9 c9 R),_,_,_,_,rfl,aj,ab,ao,an,aW,nW,ae⟩
    refine jE rfl rfl ?_;go_simp;try refine kL ?_
    refine lH 8 ?_;go_simp;try refine kL ?_
    refine lH 9 ?_;go_simp;try refine kL ?_
    first | rw[al.out] | rw[ad.out]
    refine iT (by kernel_rfl) ?_ _;go_wp2_with fail;go_meet;exact⟨i9,(Tx.mk k9 o9 t9 z9 s9 A9 c9 R),_,_,_,_,rfl,aj,ab,ao,an,aW,nW,ae⟩
   case rest=>
   clear HX c_ bG a_ NS;obtain⟨dW,y,F,vA,vE,dN,rfl,bR,c2,HX,cR,cQ,a_,NS⟩:=hcut;go_wp2_with fail;refine BC (jH cR.out [⟨#[59]⟩] (by decide)) HX cQ bR ?_;clear HX;intro bQ dM dO i32 ez bT c7 HX bo bY bs cP;subst bT;replace NS:Hid (xm n1 b3 F bQ s a' ⟨oA,oc,ol⟩ ⟨kA,kc,kl⟩ vA vE J (I++[y])):=NS.out.iv ag ai bs;have aG:n1<=bQ.heap.size:=by have h1:=lZ bs;omega
   replace HX:Hid (X=(ox el k f (J.map Tx.er) ((I++[y]).map Tx.er) (L.drop i32)).bind fun (cl,r)=>qD el k s (a'.l.map iO.er) (ol.map iO.er) (kl.map iO.er) cl r):=HX.out;have e4:(J++[y]).length=J.length+1:=by simp
   have e3:(I++[y]).length=I.length+1:=by simp
   have cE:i0<=i32:=bo.out;go_wp2_with fail;go_roundw
   case rel=>exact⟨i32,f,F,vA,vE,J,(I++[y]),bo,cE,by omega,by omega,by omega,HX,c7,cP,aG,NS⟩
   case measure=>(rw[je c7.out.fields.2.2.1,d1.out];have h1:=bY;have h2:=c2;have h3:=bn;omega)
  have cT:Hid (X=none):=by (show _=_;rw[HX.out,Pm HA.out HE.out (by rw[pE];omega)])
  obtain⟨a,er,rfl,he⟩:=hf;unfold oD;go_wp2_with fail;exact⟨rfl,kf cT.out (ij (im aw0) bj) (jz a er he)⟩
 have HC:=iB (nK ch.out ⟨#[97,115,115,117,109,101]⟩);rw[HA.out]at HC;go_wp2_with fail;refine HC.out.mono ?_;clear HC;rintro e bz ⟨rfl,aN⟩;have bP:=iB (ch.out.after aN);have b':ik (iz q ca) (iz q bz):=im (q:=q) aN;have cg:=ij dA b';have bJ:=cj;clear aN;replace NS:Hid (xm n1 b3 F bz s a' ⟨oA,oc,ol⟩ ⟨kA,kc,kl⟩ (.slice A5 J.length c5) (.slice A6 I.length c6) J I):=NS.out.iv ag ai b';replace a_:=jW a_ (lZ b');have ah:=NS.out.blk;obtain⟨m0,m1,m2,m3,m4,m5,m6,m7⟩:=sX ah;have ml:=jo ah;obtain⟨aQ,aP,aO,aL,aK,aJ,aI,aH⟩:=tC ah;have HC:=iB (mF bP.out (J.length:Int) 8);go_wp2_with fail;refine HC.out.mono ?_;clear HC ah m0 m1 m2 m3 m4 m5 m6 m7 ml aQ aP aO aL aK aJ aI aH;rintro e b4 ⟨aN,hE⟩;have bu:=iB (bP.out.after aN);have aR:ik (iz q bz) (iz q b4):=im (q:=q) aN;have bO:=ij cg aR;have bp:=bJ;clear aN;replace NS:Hid (xm n1 b3 F b4 s a' ⟨oA,oc,ol⟩ ⟨kA,kc,kl⟩ (.slice A5 J.length c5) (.slice A6 I.length c6) J I):=NS.out.iv ag ai aR;replace a_:=jW a_ (lZ aR);rcases hE with⟨hlt4,rfl⟩ | ⟨hge4,hf⟩
 ·skip
  have bn:=pI HA.out;replace HX:Hid (X=(jg el k (L.drop (ak+1))).bind fun (x,r)=>(iF [⟨#[59]⟩] r).bind fun (_,r)=>(ox el k f (J.map Tx.er++[x]) (I.map Tx.er) r).bind fun (cl,r)=>qD el k s (a'.l.map iO.er) (ol.map iO.er) (kl.map iO.er) cl r):=by (show _=_;rw[HX.out,QS HA.out (by rw[pE];omega),tail_drop])
  obtain⟨c0,c1,cL,c3,f2,l0⟩:=bu.out.fields;have dq:=bu.out.few;obtain⟨aa,cm,bt,bj,aV⟩:∃z,b4.setCell ⟨q,2,none⟩ (.int .i64 ((ak:Int)+1))=z/\Hid (Rd B q A c L en eA ec el z (ak+1))/\ik (iz q w0) (iz q z)/\ik (iz q b4) (iz q z):=⟨_,rfl,bu.out.move (j:=ak+1) bn,by rw[jJ];exact bO,by rw[jJ];exact iq _⟩;have bf:Hid (i0<=ak+1):=iB (wc bp.out);go_upto_region 15 with fail
  try rw[cm]
  clear cm c0 c1 cL c3 f2 l0;replace NS:Hid (xm n1 b3 F aa s a' ⟨oA,oc,ol⟩ ⟨kA,kc,kl⟩ (.slice A5 J.length c5) (.slice A6 I.length c6) J I):=NS.out.iv ag ai aV;replace a_:=jW a_ (lZ aV);go_cut [] (fun wx=>∃(i':Nat) (y:Tx) (F:Nat->Bool) (vA vE:Value) (W:World),W=wx/\Hid (i0<=i')/\ak+1<=i'/\Hid (X=(iF [⟨#[59]⟩] (L.drop i')).bind fun (_,r)=>(ox el k f ((J++[y]).map Tx.er) (I.map Tx.er) r).bind fun (cl,r)=>qD el k s (a'.l.map iO.er) (ol.map iO.er) (kl.map iO.er) cl r)/\Hid (Rd B q A c L en eA ec el W i')/\ik (iz q w0) (iz q W)/\n1<=W.heap.size/\Hid (xm n1 b3 F W s a' ⟨oA,oc,ol⟩ ⟨kA,kc,kl⟩ vA vE (J++[y]) I))
  case first=>
   have b2:=NS.out;have HC:Hid (∀U,ik aa U->Calls prog 71 #[.pointer (some q)] U (pk B q A c L en eA ec el U (ak+1) (jg el k (L.drop (ak+1))) (VX U.heap.size))):=fun U hU=>wA htag hel k (bt.out.after hU) (by omega)
   generalize bZ:jg el k (L.drop (ak+1))=Y at HC HX;have HK:Hid (∀U,ik (iz q aa) (iz q U)->U.cell? ⟨b3,6,none⟩=some (.slice A5 J.length c5)):=fun U hU=>((kq b2.blk ai hU).cell 6).trans rfl
   have l3:=jo b2.blk;refine jm (fun U:World=>U.cell? ⟨b3,6,none⟩=some (.slice A5 J.length c5)) [7,8,9,10,11] (by kernel_rfl) ?_;have aY:(fun U:World=>U.cell? ⟨b3,6,none⟩=some (.slice A5 J.length c5)) aa.drew:=HK.out _ inferInstance;refine wT 0 [1,2,5,7,8,9,10,11] (.pointer (some ⟨b3,6,none⟩)) aY ?_;try simp only[Act.put,oF,oB,oq]
   refine wT 1 [2,5,7,8,9,10,11] (.pointer (some ⟨b3,6,none⟩)) aY ?_;try simp only[Act.put,oF,oB,oq]
   refine wT 2 [5,7,8,9,10,11] ((.slice A5 J.length c5)) aY ?_;try simp only[Act.put,oF,oB,oq]
   refine wT 3 [4,7,8,9,10,11] (.pointer (some q)) aY ?_;try simp only[Act.put,oF,oB,oq]
   refine wT 5 [7,8,9,10,11] (.int .i64 (J.length:Nat)) aY ?_;try simp only[Act.put,oF,oB,oq]
   clear aY;refine jX (rs:=[4,6]) (by kernel_rfl) (by decide) ?_;intro i hi;simp only[la]at hi;rcases hi with rfl | rfl
   ·skip
    refine jE rfl rfl ?_;go_simp;go_at_call 71;refine (HC.out _ inferInstance).mono ?_;clear HC;rintro e w9 ⟨aZ,hY⟩;have aM:ik (iz q aa) (iz q w9):=ij (im inferInstance) aZ;cases Y with
    |none=>
     obtain⟨a,er,rfl,he⟩:=hY;unfold oD;exact⟨rfl,kf HX.out (ij (im aw0) (ij bj aM)) (jz a er he)⟩
    |some yy=>
    obtain⟨x9,r9⟩:=yy;obtain⟨v9,i9,rfl,bg,R9,bD,b5⟩:=hY;subst bD;obtain⟨⟨k9,o9,t9,z9,s9,A9,c9,R⟩,az,rfl,D9⟩:=bg;rw[JQ k9 o9 t9 z9 s9 A9 c9 R];have b_:=iB (C' htag hel az bZ (by rw[nY];have:=R9.few;omega));have az:=iB az;refine kS (HK.out _ aM) ?_;refine lH 6 ?_;go_simp;obtain⟨ar,aw,bm,b1,aX,af,bH,ay,bq⟩:∃z,w9.alloc (.cells #[.int .i64 0,.int .i64 0,.int .i64 0,.int .i64 0,.string ⟨#[]⟩,.slice none 0 0] 73)=z/\Rd B q A c L en eA ec el z i9/\ik (iz q w0) (iz q z)/\ik (iz q aa) (iz q z)/\xm n1 b3 F z s a' ⟨oA,oc,ol⟩ ⟨kA,kc,kl⟩ (.slice A5 J.length c5) (.slice A6 I.length c6) J I/\RX (old aa.heap.size z) (.mk k9 o9 t9 z9 s9 A9 c9 R)/\oZ z (w9.heap.size+1) 6 (some ⟨w9.heap.size,0,none⟩) 1 (jj oE)/\w9.heap.size<z.heap.size:=⟨_,rfl,R9.after inferInstance,ij (ij bj aM) (im inferInstance),ij aM (im inferInstance),(b2.iv ag ai aM).after inferInstance,D9.below (jK inferInstance).below,uY (jC ..) _ rfl 1 6 rfl,by rw[iH];omega⟩;have aT:∀b,F b=true->b<aa.heap.size:=b2.fam.lim;try rw[aw]
    clear aw;refine kS (HK.out _ aX) ?_;have bF:JV (kK F ar) (Tx.mk k9 o9 t9 z9 s9 A9 c9 R):=⟨bH.sub (nO ar aT),b_.out.1,b_.out.2⟩;have cC:J.length<=8:=by omega
    have nz:n1<=ar.heap.size:=by have h1:=b1;have h2:=lZ aX;omega
    refine lH 7 ?_;obtain⟨bB,aF,aE,aD,aC⟩:=info_parts qs;refine jZ ar (.tmp 54) (.tmp 58) 63 rfl n1 73 bB _ 6 _ underlying63 aF aE aD aC rfl (by decide) (.slice A5 J.length c5) J.length (J.flatMap jj) rfl af.oa.own _ _ 1 1 (jj oE) rfl ay (by intro u hu;simp only[jj,oE,txs,la]at hu;rcases hu with rfl | rfl | rfl | rfl | rfl | rfl<;>rfl) (by unfold maxLen;omega) (by omega) nz ?_;intro v5 w11 au av bE;clear aF aE aD aC;obtain⟨r5,aB,rfl,cB,b9,ba⟩:=af.Sy bF au av bE;have bl:=bm.grown af.oa.own av ag cd;have bk:=kF b1 af.oa.own av ag cc;have aS:iP w11 b3 65 #[s,a'.val,.slice oA ol.length oc,.slice kA kl.length kc,.slice none 0 0,.slice none 0 0,(.slice A5 J.length c5),(.slice A6 I.length c6)]:=oY af.blk av fun e'=>by have:=(af.oa.lt e'.symm).1;omega
    have aq:r5≠q:=by omega
    have bA:r5≠b3:=by omega
    have fr:∀j,w11.frozen? ⟨r5,j,none⟩=false:=fun j=>au.frozenAt j
    have cz:∀j u,(jj oE)[j]?=some u->w11.cell? ⟨r5,J.length*6+j,none⟩=some u:=fun j u hu=>by
     have h1:=au.cells (g:=r5) rfl (J.length*6+j) u (by rw[xK (by rw[show (J.flatMap jj).length=J.length*6 from pU J];omega),show (J.flatMap jj).length=J.length*6 from pU J,Nc];exact hu);rwa [yb,t_]at h1
    have z0:w11.cell? ⟨r5,J.length*6,none⟩=some (.int .i64 0):=cz 0 _ rfl;have z1:w11.cell? ⟨r5,J.length*6+1,none⟩=some (.int .i64 0):=cz 1 _ rfl;have z2:w11.cell? ⟨r5,J.length*6+2,none⟩=some (.int .i64 0):=cz 2 _ rfl;have z3:w11.cell? ⟨r5,J.length*6+3,none⟩=some (.int .i64 0):=cz 3 _ rfl;have z4:w11.cell? ⟨r5,J.length*6+4,none⟩=some (.string ⟨#[]⟩):=cz 4 _ rfl;have z5:w11.cell? ⟨r5,J.length*6+5,none⟩=some (.slice none 0 0):=cz 5 _ rfl;have cK:w11.frozen? ⟨r5,J.length*6,none⟩=false:=fr _;have cJ:w11.frozen? ⟨r5,J.length*6+1,none⟩=false:=fr _;have cI:w11.frozen? ⟨r5,J.length*6+2,none⟩=false:=fr _;have cH:w11.frozen? ⟨r5,J.length*6+3,none⟩=false:=fr _;have cG:w11.frozen? ⟨r5,J.length*6+4,none⟩=false:=fr _;have cF:w11.frozen? ⟨r5,J.length*6+5,none⟩=false:=fr _;have cu:Le (r5+1) w11:=⟨b9⟩;clear cz fr;obtain⟨m0,m1,m2,m3,m4,m5,m6,m7⟩:=sX aS;have ml:=jo aS;obtain⟨aQ,aP,aO,aL,aK,aJ,aI,aH⟩:=tC aS;have hW:∃W,(od w11 r5 (J.length*6) (Tx.mk k9 o9 t9 z9 s9 A9 c9 R)).setCell ⟨b3,6,none⟩ (.slice (some r5) (J.length+1) aB)=W/\Hid (Rd B q A c L en eA ec el W i9)/\ik (iz q w0) (iz q W)/\n1<=W.heap.size/\Hid (xm n1 b3 (iD F (.slice (some r5) (J.length+1) aB)) W s a' ⟨oA,oc,ol⟩ ⟨kA,kc,kl⟩ (.slice (some r5) (J.length+1) aB) (.slice A6 I.length c6) (J++[(Tx.mk k9 o9 t9 z9 s9 A9 c9 R)]) I):=⟨_,rfl,by unfold od;exact ((((((bl.set aq (by omega) _ _).set aq (by omega) _ _).set aq (by omega) _ _).set aq (by omega) _ _).set aq (by omega) _ _).set aq (by omega) _ _).set ai (by omega) _ _,by unfold od;exact iJ (k:=ko bh) (h:=iJ (k:=ko (by omega)) (h:=iJ (k:=ko (by omega)) (h:=iJ (k:=ko (by omega)) (h:=iJ (k:=ko (by omega)) (h:=iJ (k:=ko (by omega)) (h:=iJ (k:=ko (by omega)) (h:=bk) _ _) _ _) _ _) _ _) _ _) _ _) _ _,by rw[jc,th];exact jW nz av.size,ba⟩
    obtain⟨W,hW,an,aW,nW,ae⟩:=hW;have aA:od (w11.setCell ⟨b3,6,none⟩ (.slice (some r5) (J.length+1) aB)) r5 (J.length*6) (Tx.mk k9 o9 t9 z9 s9 A9 c9 R)=W:=by rw[xr _ bA];exact hW
    unfold od at hW aA;simp only[txs]at hW aA;have e9:((J++[(Tx.mk k9 o9 t9 z9 s9 A9 c9 R)]).map Tx.er)=J.map Tx.er++[x9]:=by rw[s_,<- az.out];rfl
    have ao:Hid (X=(iF [⟨#[59]⟩] (L.drop i9)).bind fun (_,r)=>(ox el k f ((J++[(Tx.mk k9 o9 t9 z9 s9 A9 c9 R)]).map Tx.er) (I.map Tx.er) r).bind fun (cl,r)=>qD el k s (a'.l.map iO.er) (ol.map iO.er) (kl.map iO.er) cl r):=by (show _=_;rw[e9];exact HX.out)
    clear e9;have bX:(J.length:Int)<(J.length:Int)+1:=by omega
    have bW:¬((J.length:Int)+1<=(J.length:Int)):=by omega
    have bV:(0:Int)<=(J.length:Int):=by omega
    have aj:Hid (i0<=i9):=iB (jW bf.out b5);have ab:ak+1<=i9:=b5;have al:=iB hW;have ad:=iB aA;clear hW aA;try refine kL ?_
    refine jX (rs:=[8,10]) (by kernel_rfl) (by decide) ?_;intro i hi;simp only[la]at hi;rcases hi with rfl | rfl
    ·skip
     refine jE rfl rfl ?_;go_simp;try refine kL ?_
     refine jX (rs:=[9,10]) (by kernel_rfl) (by decide) ?_;intro i hi;simp only[la]at hi;rcases hi with rfl | rfl
     ·skip
      refine jE rfl rfl ?_;go_simp;try refine kL ?_
      refine lH 10 ?_;go_simp;try refine kL ?_
      refine lH 11 ?_;go_simp;try refine kL ?_
      first | rw[al.out] | rw[ad.out]
      refine iT (by kernel_rfl) ?_ _;go_wp2_with fail;go_meet;exact⟨i9,(Tx.mk k9 o9 t9 z9 s9 A9 c9 R),_,_,_,_,rfl,aj,ab,ao,an,aW,nW,ae⟩
     refine jE rfl rfl ?_;go_simp;try refine kL ?_
     refine jX (rs:=[9,11]) (by kernel_rfl) (by decide) ?_;intro i hi;simp only[la]at hi;rcases hi with rfl | rfl
     ·skip
      refine jE rfl rfl ?_;go_simp;try refine kL ?_
      refine lH 11 ?_;go_simp;try refine kL ?_
      first | rw[al.out] | rw[ad.out]
      refine iT (by kernel_rfl) ?_ _;go_wp2_with fail;go_meet;exact⟨i9,(Tx.mk k9 o9 t9 z9 s9 A9 c9 R),_,_,_,_,rfl,aj,ab,ao,an,aW,nW,ae⟩
     refine jE rfl rfl ?_;go_simp;try refine kL ?_
     refine lH 9 ?_;go_simp;try refine kL ?_
     first | rw[al.out] | rw[ad.out]
     refine iT (by kernel_rfl) ?_ _;go_wp2_with fail;go_meet;exact⟨i9,(Tx.mk k9 o9 t9 z9 s9 A9 c9 R),_,_,_,_,rfl,aj,ab,ao,an,aW,nW,ae⟩
    refine jE rfl rfl ?_;go_simp;try refine kL ?_
    refine jX (rs:=[8,11]) (by kernel_rfl) (by decide) ?_;intro i hi;simp only[la]at hi;rcases hi with rfl | rfl
    ·skip
     refine jE rfl rfl ?_;go_simp;try refine kL ?_
     refine jX (rs:=[9,11]) (by kernel_rfl) (by decide) ?_;intro i hi;simp only[la]at hi;rcases hi with rfl | rfl
     ·skip
      refine jE rfl rfl ?_;go_simp;try refine kL ?_
      refine lH 11 ?_;go_simp;try refine kL ?_
      first | rw[al.out] | rw[ad.out]
      refine iT (by kernel_rfl) ?_ _;go_wp2_with fail;go_meet;exact⟨i9,(Tx.mk k9 o9 t9 z9 s9 A9 c9 R),_,_,_,_,rfl,aj,ab,ao,an,aW,nW,ae⟩
     refine jE rfl rfl ?_;go_simp;try refine kL ?_
     refine lH 9 ?_;go_simp;try refine kL ?_
     first | rw[al.out] | rw[ad.out]
     refine iT (by kernel_rfl) ?_ _;go_wp2_with fail;go_meet;exact⟨i9,(Tx.mk k9 o9 t9 z9 s9 A9 c9 R),_,_,_,_,rfl,aj,ab,ao,an,aW,nW,ae⟩
    refine jE rfl rfl ?_;go_simp;try refine kL ?_
    refine lH 8 ?_;go_simp;try refine kL ?_
    refine lH 9 ?_;go_simp;try refine kL ?_
    first | rw[al.out] | rw[ad.out]
    refine iT (by kernel_rfl) ?_ _;go_wp2_with fail;go_meet;exact⟨i9,(Tx.mk k9 o9 t9 z9 s9 A9 c9 R),_,_,_,_,rfl,aj,ab,ao,an,aW,nW,ae⟩
   refine jE rfl rfl ?_;go_simp;obtain⟨w8,bS,o8,cw,d_⟩:∃z,(aa.alloc (.cells #[.int .i64 0,.int .i64 0,.int .i64 0,.int .i64 0,.string ⟨#[]⟩,.slice none 0 0] 73)).drew=z/\ik aa z/\iP z aa.heap.size 73 #[.int .i64 0,.int .i64 0,.int .i64 0,.int .i64 0,.string ⟨#[]⟩,.slice none 0 0]/\aa.heap.size<z.heap.size:=⟨_,rfl,inferInstance,(jC ..).drew,by rw[xy,iH];omega⟩;try rw[bS]
   clear bS
   (first | refine⟨(by first | exact HK.out _ (im o8) | exact HK.out _ (iq _)),?_⟩ | refine⟨fun _=>(by first | exact HK.out _ (im o8) | exact HK.out _ (iq _)),?_⟩)
   refine lH 4 ?_;go_simp;go_at_call 71;refine (HC.out _ inferInstance).mono ?_;clear HC;rintro e w9 ⟨aZ,hY⟩;have aM:ik (iz q aa) (iz q w9):=ij (im inferInstance) aZ;cases Y with
   |none=>
    obtain⟨a,er,rfl,he⟩:=hY;unfold oD;exact⟨rfl,kf HX.out (ij (im aw0) (ij bj aM)) (jz a er he)⟩
   |some yy=>
   obtain⟨x9,r9⟩:=yy;obtain⟨v9,i9,rfl,bg,R9,bD,b5⟩:=hY;subst bD;obtain⟨⟨k9,o9,t9,z9,s9,A9,c9,R⟩,az,rfl,D9⟩:=bg;rw[JQ k9 o9 t9 z9 s9 A9 c9 R];have b_:=iB (C' htag hel az bZ (by rw[nY];have:=R9.few;omega));have az:=iB az;refine kS (HK.out _ aM) ?_;have bU:aa.heap.size≠q:=by have:=bt.out.blk.lt;omega
   have bC:iP w9 aa.heap.size 73 #[.int .i64 0,.int .i64 0,.int .i64 0,.int .i64 0,.string ⟨#[]⟩,.slice none 0 0]:=kq cw bU aZ;have ay:oZ w9 (aa.heap.size+1) 6 (some ⟨aa.heap.size,0,none⟩) 1 (jj oE):=uY bC _ rfl 1 6 rfl;have bq:aa.heap.size<w9.heap.size:=bC.lt;have aT:∀b,F b=true->b<aa.heap.size:=b2.fam.lim;obtain⟨ar,aw⟩:∃z,z=w9:=⟨_,rfl⟩;rw[<- aw]at ay bq R9 D9 aM⊢;clear aw bC aZ;have bm:=R9;have b1:=ij bj aM;have aX:=aM;have af:=b2.iv ag ai aM;have bH:RX (old aa.heap.size ar) (.mk k9 o9 t9 z9 s9 A9 c9 R):=D9.sub (iS o8.below.size ar);have bF:JV (kK F ar) (Tx.mk k9 o9 t9 z9 s9 A9 c9 R):=⟨bH.sub (nO ar aT),b_.out.1,b_.out.2⟩;have cC:J.length<=8:=by omega
   have nz:n1<=ar.heap.size:=by have h1:=b1;have h2:=lZ aX;omega
   refine lH 7 ?_;obtain⟨bB,aF,aE,aD,aC⟩:=info_parts qs;refine jZ ar (.tmp 54) (.tmp 58) 63 rfl n1 73 bB _ 6 _ underlying63 aF aE aD aC rfl (by decide) (.slice A5 J.length c5) J.length (J.flatMap jj) rfl af.oa.own _ _ 1 1 (jj oE) rfl ay (by intro u hu;simp only[jj,oE,txs,la]at hu;rcases hu with rfl | rfl | rfl | rfl | rfl | rfl<;>rfl) (by unfold maxLen;omega) (by omega) nz ?_;intro v5 w11 au av bE;clear aF aE aD aC;obtain⟨r5,aB,rfl,cB,b9,ba⟩:=af.Sy bF au av bE;have bl:=bm.grown af.oa.own av ag cd;have bk:=kF b1 af.oa.own av ag cc;have aS:iP w11 b3 65 #[s,a'.val,.slice oA ol.length oc,.slice kA kl.length kc,.slice none 0 0,.slice none 0 0,(.slice A5 J.length c5),(.slice A6 I.length c6)]:=oY af.blk av fun e'=>by have:=(af.oa.lt e'.symm).1;omega
   have aq:r5≠q:=by omega
   have bA:r5≠b3:=by omega
   have fr:∀j,w11.frozen? ⟨r5,j,none⟩=false:=fun j=>au.frozenAt j
   have cz:∀j u,(jj oE)[j]?=some u->w11.cell? ⟨r5,J.length*6+j,none⟩=some u:=fun j u hu=>by
    have h1:=au.cells (g:=r5) rfl (J.length*6+j) u (by rw[xK (by rw[show (J.flatMap jj).length=J.length*6 from pU J];omega),show (J.flatMap jj).length=J.length*6 from pU J,Nc];exact hu);rwa [yb,t_]at h1
   have z0:w11.cell? ⟨r5,J.length*6,none⟩=some (.int .i64 0):=cz 0 _ rfl;have z1:w11.cell? ⟨r5,J.length*6+1,none⟩=some (.int .i64 0):=cz 1 _ rfl;have z2:w11.cell? ⟨r5,J.length*6+2,none⟩=some (.int .i64 0):=cz 2 _ rfl;have z3:w11.cell? ⟨r5,J.length*6+3,none⟩=some (.int .i64 0):=cz 3 _ rfl;have z4:w11.cell? ⟨r5,J.length*6+4,none⟩=some (.string ⟨#[]⟩):=cz 4 _ rfl;have z5:w11.cell? ⟨r5,J.length*6+5,none⟩=some (.slice none 0 0):=cz 5 _ rfl;have cK:w11.frozen? ⟨r5,J.length*6,none⟩=false:=fr _;have cJ:w11.frozen? ⟨r5,J.length*6+1,none⟩=false:=fr _;have cI:w11.frozen? ⟨r5,J.length*6+2,none⟩=false:=fr _;have cH:w11.frozen? ⟨r5,J.length*6+3,none⟩=false:=fr _;have cG:w11.frozen? ⟨r5,J.length*6+4,none⟩=false:=fr _;have cF:w11.frozen? ⟨r5,J.length*6+5,none⟩=false:=fr _;have cu:Le (r5+1) w11:=⟨b9⟩;clear cz fr;obtain⟨m0,m1,m2,m3,m4,m5,m6,m7⟩:=sX aS;have ml:=jo aS;obtain⟨aQ,aP,aO,aL,aK,aJ,aI,aH⟩:=tC aS;have hW:∃W,(od w11 r5 (J.length*6) (Tx.mk k9 o9 t9 z9 s9 A9 c9 R)).setCell ⟨b3,6,none⟩ (.slice (some r5) (J.length+1) aB)=W/\Hid (Rd B q A c L en eA ec el W i9)/\ik (iz q w0) (iz q W)/\n1<=W.heap.size/\Hid (xm n1 b3 (iD F (.slice (some r5) (J.length+1) aB)) W s a' ⟨oA,oc,ol⟩ ⟨kA,kc,kl⟩ (.slice (some r5) (J.length+1) aB) (.slice A6 I.length c6) (J++[(Tx.mk k9 o9 t9 z9 s9 A9 c9 R)]) I):=⟨_,rfl,by unfold od;exact ((((((bl.set aq (by omega) _ _).set aq (by omega) _ _).set aq (by omega) _ _).set aq (by omega) _ _).set aq (by omega) _ _).set aq (by omega) _ _).set ai (by omega) _ _,by unfold od;exact iJ (k:=ko bh) (h:=iJ (k:=ko (by omega)) (h:=iJ (k:=ko (by omega)) (h:=iJ (k:=ko (by omega)) (h:=iJ (k:=ko (by omega)) (h:=iJ (k:=ko (by omega)) (h:=iJ (k:=ko (by omega)) (h:=bk) _ _) _ _) _ _) _ _) _ _) _ _) _ _,by rw[jc,th];exact jW nz av.size,ba⟩
   obtain⟨W,hW,an,aW,nW,ae⟩:=hW;have aA:od (w11.setCell ⟨b3,6,none⟩ (.slice (some r5) (J.length+1) aB)) r5 (J.length*6) (Tx.mk k9 o9 t9 z9 s9 A9 c9 R)=W:=by rw[xr _ bA];exact hW
   unfold od at hW aA;simp only[txs]at hW aA;have e9:((J++[(Tx.mk k9 o9 t9 z9 s9 A9 c9 R)]).map Tx.er)=J.map Tx.er++[x9]:=by rw[s_,<- az.out];rfl
   have ao:Hid (X=(iF [⟨#[59]⟩] (L.drop i9)).bind fun (_,r)=>(ox el k f ((J++[(Tx.mk k9 o9 t9 z9 s9 A9 c9 R)]).map Tx.er) (I.map Tx.er) r).bind fun (cl,r)=>qD el k s (a'.l.map iO.er) (ol.map iO.er) (kl.map iO.er) cl r):=by (show _=_;rw[e9];exact HX.out)
   clear e9;have bX:(J.length:Int)<(J.length:Int)+1:=by omega
   have bW:¬((J.length:Int)+1<=(J.length:Int)):=by omega
   have bV:(0:Int)<=(J.length:Int):=by omega
   have aj:Hid (i0<=i9):=iB (jW bf.out b5);have ab:ak+1<=i9:=b5;have al:=iB hW;have ad:=iB aA;clear hW aA;try refine kL ?_
   refine jX (rs:=[8,10]) (by kernel_rfl) (by decide) ?_;intro i hi;simp only[la]at hi;rcases hi with rfl | rfl
   ·skip
    refine jE rfl rfl ?_;go_simp;try refine kL ?_
    refine jX (rs:=[9,10]) (by kernel_rfl) (by decide) ?_;intro i hi;simp only[la]at hi;rcases hi with rfl | rfl
    ·skip
     refine jE rfl rfl ?_;go_simp;try refine kL ?_
     refine lH 10 ?_;go_simp;try refine kL ?_
     refine lH 11 ?_;go_simp;try refine kL ?_
     first | rw[al.out] | rw[ad.out]
     refine iT (by kernel_rfl) ?_ _;go_wp2_with fail;go_meet;exact⟨i9,(Tx.mk k9 o9 t9 z9 s9 A9 c9 R),_,_,_,_,rfl,aj,ab,ao,an,aW,nW,ae⟩
    refine jE rfl rfl ?_;go_simp;try refine kL ?_
    refine jX (rs:=[9,11]) (by kernel_rfl) (by decide) ?_;intro i hi;simp only[la]at hi;rcases hi with rfl | rfl
    ·skip
     refine jE rfl rfl ?_;go_simp;try refine kL ?_
     refine lH 11 ?_;go_simp;try refine kL ?_
     first | rw[al.out] | rw[ad.out]
     refine iT (by kernel_rfl) ?_ _;go_wp2_with fail;go_meet;exact⟨i9,(Tx.mk k9 o9 t9 z9 s9 A9 c9 R),_,_,_,_,rfl,aj,ab,ao,an,aW,nW,ae⟩
    refine jE rfl rfl ?_;go_simp;try refine kL ?_
    refine lH 9 ?_;go_simp;try refine kL ?_
    first | rw[al.out] | rw[ad.out]
    refine iT (by kernel_rfl) ?_ _;go_wp2_with fail;go_meet;exact⟨i9,(Tx.mk k9 o9 t9 z9 s9 A9 c9 R),_,_,_,_,rfl,aj,ab,ao,an,aW,nW,ae⟩
   refine jE rfl rfl ?_;go_simp;try refine kL ?_
   refine jX (rs:=[8,11]) (by kernel_rfl) (by decide) ?_;intro i hi;simp only[la]at hi;rcases hi with rfl | rfl
   ·skip
    refine jE rfl rfl ?_;go_simp;try refine kL ?_
    refine jX (rs:=[9,11]) (by kernel_rfl) (by decide) ?_;intro i hi;simp only[la]at hi;rcases hi with rfl | rfl
    ·skip
     refine jE rfl rfl ?_;go_simp;try refine kL ?_
     refine lH 11 ?_;go_simp;try refine kL ?_
     first | rw[al.out] | rw[ad.out]
     refine iT kp ?_ _;go_wp2_with fail;go_meet;exact⟨i9,(Tx.mk k9 o9 t9 z9 s9 A9 c9 R),_,_,_,_,rfl,aj,ab,ao,an,aW,nW,ae⟩
    refine jE rfl rfl ?_;go_simp;try refine kL ?_
    refine lH 9 ?_;go_simp;try refine kL ?_
    first | rw[al.out] | rw[ad.out]
    refine iT kp ?_ _;go_wp2_with fail;go_meet;exact⟨i9,(Tx.mk k9 o9 t9 z9 s9 A9 c9 R),_,_,_,_,rfl,aj,ab,ao,an,aW,nW,ae⟩
   refine jE rfl rfl ?_;go_simp;try refine kL ?_
   refine lH 8 ?_;go_simp;try refine kL ?_
   refine lH 9 ?_;go_simp;try refine kL ?_
   first | rw[al.out] | rw[ad.out]
   refine iT kp ?_ _;go_wp2_with fail;go_meet;exact⟨i9,(Tx.mk k9 o9 t9 z9 s9 A9 c9 R),_,_,_,_,rfl,aj,ab,ao,an,aW,nW,ae⟩
  case rest=>
  obtain⟨dW,y,F,vA,vE,dN,rfl,bR,c2,HX,cR,cQ,a_,NS⟩:=hcut;go_wp2_with fail;refine td (jH cR [⟨#[59]⟩] iI) HX cQ bR ?_;clear HX;intro bQ dM dO i32 bT c7 HX bo bY bs cP;subst bT;replace NS:Hid (xm n1 b3 F bQ s a' ⟨oA,oc,ol⟩ ⟨kA,kc,kl⟩ vA vE (J++[y]) I):=NS.iv ag ai bs;have aG:n1<=bQ.heap.size:=by have h1:=lZ bs;omega
  replace HX:Hid (X=(ox el k f ((J++[y]).map Tx.er) (I.map Tx.er) (L.drop i32)).bind fun (cl,r)=>qD el k s (a'.l.map iO.er) (ol.map iO.er) (kl.map iO.er) cl r):=HX;have e4:(J++[y]).length=J.length+1:=by simp
  have e3:(I++[y]).length=I.length+1:=by simp
  have cE:i0<=i32:=bo.out;go_wp2_with fail;go_roundw
  case rel=>exact⟨i32,f,F,vA,vE,(J++[y]),I,bo,cE,iu,iu,iu,HX,c7,cP,aG,NS⟩
  case measure=>(rw[je c7.out.fields.2.2.1,d1.out];have h1:=bY;have h2:=c2;have h3:=bn;omega)
 have cT:Hid (X=none):=by (show _=_;rw[HX.out,OP HA.out (by rw[pE];omega)])
 obtain⟨a,er,rfl,he⟩:=hf;unfold oD;go_wp2_with fail;exact⟨rfl,kf cT.out (ij (im aw0) bO) (jz a er he)⟩
end
end
end Go.Proofs.YtnigblndonocfaaGreatDoor
