/- A part of the proof. -/
import Derived.Test.YtnigblndonocfaaGreatDoorPNo
set_option linter.unusedVariables false
set_option linter.unusedSimpArgs false
namespace Go.Proofs.YtnigblndonocfaaGreatDoor
set_option maxRecDepth 100000
set_option maxHeartbeats 6400000
open Go.Proofs.Tryz
open Go.RowKit Go.BigFrame
section
section
variable {B:World} {q:Nat} {A:Option Addr} {c:Nat} {L:List Tk} {en:Int} {eA:Option Addr} {ec:Nat} {el:List iW} {w w0 w1:World} {i:Nat}
def oH (y:iW):List Value:=[.string y.name,.slice y.tags.A y.tags.l.length y.tags.c]
structure yR (w:World) (y:iW):Prop where
 nm:y.name.size<=65536
 tg:ir 1 sR w y.tags
 few:y.tags.l.length<=16
theorem rG:pH yR:=⟨fun W W' y hb h=>⟨h.nm,h.tg.below lD hb,h.few⟩,fun W w y k h=>⟨h.nm,h.tg.sub sj k,h.few⟩⟩
theorem I7 {W:World} {b o:Nat} {y:iW} (h:yR W y) (hj:∀j u,(oH y)[j]?=some u->W.cell? ⟨b,o+j,none⟩=some u):sM W b o y:=⟨hj 0 _ rfl,hj 1 _ rfl,jW h.nm iI,h.tg⟩
theorem Rk:(prog.info? 57).map (fun i=>(i.zero,i.size,i.bytes))=some (some (.agg #[.string ⟨#[]⟩,.slice none 0 0]),2,40):=by kernel_rfl
theorem Rr:(prog.info? 65).map (fun i=>(i.zero,i.size,i.bytes))=some (some (.agg #[.string ⟨#[]⟩,.slice none 0 0,.slice none 0 0,.slice none 0 0,.slice none 0 0,.slice none 0 0,.slice none 0 0,.slice none 0 0]),8,184):=by kernel_rfl
theorem JK {n:Nat} (hq:q<n) (w:World):CU (old n w) (iz q w):=by
 refine⟨by rw[ku,iZ];exact js _,fun b o v j=>?_⟩;by_cases e:b<n
 ·exact (C9 w e j).elim
 have I:=wb e;rw[Dj (w:=old n w) (w':=iz q w) (a:=⟨b,o,none⟩) ((km w (show b≠q by omega)).trans (lV w I).symm)];exact j
theorem Rd.P1 {eA':Option Addr} {ec':Nat} {el':List iW} {j n:Nat} (h:Rd B q A c L en eA ec el w0 j) (a:ik B (iz q w)) (hi:i<=L.length) (hb:iP w q 95 #[.slice A L.length c,en,.int .i64 (i:Nat),.slice eA' el'.length ec']) (he:ir 2 sM (old n w) ⟨eA',ec',el'⟩) (hq:q<n):Rd (iz q w) q A c L en eA' ec' el' w i:=
 ⟨hb,iq _,hi,h.tk.below xB a.below,he.sub rH (JK hq w),h.few,h.num⟩
def sJ (q:Nat) (A:Option Addr) (c:Nat) (L:List Tk) (en:Int) (w:World) (k:Nat) (X:Option (List KD×List Tk)) (e:Ending) (w':World):Prop:=ik (iz q w) (iz q w')/\match X with
 |none=>Fl e
 |some (en_,r)=>∃el:List iW,el.map iW.er=en_/\el.length<=24/\(∀u∈el,u.tags.l.length<=16)/\match mQ el k 96 [] r with
  |none=>Fl e
  |some (ns,r')=>∃(pg:Il) (i':Nat) (B':World) (eA':Option Addr) (ec':Nat),e=.returned (.agg #[.slice pg.enums.A pg.enums.l.length pg.enums.c,.slice pg.nodes.A pg.nodes.l.length pg.nodes.c])/\FJ True (old w.heap.size w') pg/\pg.enums.l=el/\pg.nodes.l.map nh.er=ns/\Rd B' q A c L en eA' ec' el w' i'/\L.drop i'=r'
section
variable {k:Nat} {X:Option (List KD×List Tk)} {e:Ending} {w':World}
theorem sJ.bad (h:X=none) (a:ik (iz q w) (iz q w')) (hf:Fl e):sJ q A c L en w k X e w':=by subst h;exact⟨a,hf⟩
theorem sJ.SA {r:List Tk} (h:X=some (el.map iW.er,r)) (h1:el.length<=24) (h2:∀u∈el,u.tags.l.length<=16) (hn:mQ el k 96 [] r=none) (a:ik (iz q w) (iz q w')) (hf:Fl e):sJ q A c L en w k X e w':=by
 subst h;exact⟨a,el,rfl,h1,h2,by rw[hn];exact hf⟩
theorem sJ.ok {r r':List Tk} {ns:List D8} (h:X=some (el.map iW.er,r)) (h1:el.length<=24) (h2:∀u∈el,u.tags.l.length<=16) (hn:mQ el k 96 [] r=some (ns,r')) (a:ik (iz q w) (iz q w')) (pg:Il) {i':Nat} {B':World} {eA':Option Addr} {ec':Nat} (hR:FJ True (old w.heap.size w') pg) (he:pg.enums.l=el) (hns:pg.nodes.l.map nh.er=ns) (hr:Rd B' q A c L en eA' ec' el w' i') (hd:L.drop i'=r'):sJ q A c L en w k X (.returned (.agg #[.slice pg.enums.A pg.enums.l.length pg.enums.c,.slice pg.nodes.A pg.nodes.l.length pg.nodes.c])) w':=by
 subst h;exact⟨a,el,rfl,h1,h2,by rw[hn];exact⟨pg,i',B',eA',ec',rfl,hR,he,hns,hr,hd⟩⟩
end
def EF (m:Nat) (l:List KD) (ts:List Tk):Option (List KD×List Tk):=
 match m with
 |0=>none
 |m+1=>(pV ts).bind fun (s,r)=>(iF [⟨#[61]⟩] r).bind fun (_,r)=>(qH 16 [] r).bind fun (tg,r)=>(iF [⟨#[59]⟩] r).bind fun (_,r)=>mE m (l++[⟨s,tg⟩]) r
theorem Lt (m:Nat) (l:List KD) (ts:List Tk):mE m l ts=if jq ⟨#[116,121,112,101]⟩ ts then EF m l ts.tail else some (l,ts):=by cases m<;>rfl
def Fk (el:List iW) (k m:Nat) (l:List D8) (ts:List Tk):Option (List D8×List Tk):=
 match m with
 |0=>none
 |m+1=>(uO el k ts).bind fun (x,r)=>mQ el k m (l++[x]) r
theorem LK (el:List iW) (k m:Nat) (l:List D8) (ts:List Tk):mQ el k m l ts=if jq ⟨#[110,111,100,101]⟩ ts then Fk el k m l ts.tail else some (l,ts):=by cases m<;>rfl
theorem G4 {k:Nat} (h:Rd B q A c L en none 0 [] w i) (hk:20*L.length+40<=k):Calls prog 13 #[.pointer (some q)] w (sJ q A c L en w k (mE 24 [] (L.drop i))):=by
 have dW:=h.aft;obtain⟨X,hX⟩:∃X,mE 24 [] (L.drop i)=X:=⟨_,rfl⟩;rw[hX];obtain⟨i0,dO⟩:∃j,i=j:=⟨_,rfl⟩;rw[dO]at hX h;clear dO;have R:=iB hX.symm;have eR:Hid (i0<=i0):=js _;clear hX;have hq:=h.blk.lt;have eV:=h.base;obtain⟨r,hr⟩:∃r,w.heap.size=r:=⟨_,rfl⟩;have bX:r≠q:=by omega
 have gu:q<r:=by omega
 obtain⟨w0,eT,aw0,B0,R0,s0⟩:=Ls h hr bX #[.slice none 0 0,.slice none 0 0] 25;have HB:=iB B0;have a0:ik (iz q w0) (iz q w0):=iq _;have fM:q<w0.heap.size:=by omega
 have fN:B.heap.size<=w0.heap.size:=by omega
 clear h B0;obtain⟨b3,dS⟩:∃g,w0.heap.size=g:=⟨_,rfl⟩;have an:b3≠q:=by omega
 have gr:r<b3:=by omega
 obtain⟨n1,dI⟩:∃n,b3+1=n:=⟨_,rfl⟩;have a6:q<n1:=by omega
 have gl:B.heap.size<=n1:=by omega
 have dc:w0.heap.size<=n1:=by omega
 have cN:b3<n1:=by omega
 obtain⟨w1,dA,a1,B3,R1,a'⟩:∃v,w0.alloc (.cells #[.slice none 0 0,.slice none 0 0] 25)=v/\ik (iz q w0) (iz q v)/\Hid (iP v b3 25 #[.slice none 0 0,.slice none 0 0])/\Hid (Rd B q A c L en none 0 [] v i0)/\n1<=v.heap.size:=⟨_,rfl,im inferInstance,by rw[<- dS];exact jC ..,R0.out.after inferInstance,by (rw[iH];omega)⟩;have fQ:=iB dI;have ck:=iB dA;clear dA s0 dI;go_in;go_wp2_with fail;try rw[hr]
 try rw[eT]
 try rw[dS]
 try rw[ck.out]
 have ao:ik (iz q w) (iz q w0):=im aw0;have ez:Hid (kZ n1 57 2 oH yR (fun b=>decide (b<n1)) w1 (.slice none 0 0) []):=vZ;go_loopw [] (fun wr=>∃(i' m:Nat) (B1:World) (eA:Option Addr) (ec:Nat) (I:List iW),Hid (i0<=i')/\Hid (I.length+m=24)/\Hid (X=mE m (I.map iW.er) (L.drop i'))/\Hid (Rd B1 q A c L en eA ec I wr i')/\ik (iz q w0) (iz q wr)/\n1<=wr.heap.size/\Hid (iP wr b3 25 #[.slice none 0 0,.slice none 0 0])/\Hid (kZ n1 57 2 oH yR (fun b=>decide (b<n1)) wr (.slice eA I.length ec) I)) (fun wr=>L.length-lO wr q 2)
 case atStart=>exact⟨i0,24,B,none,0,[],eR,iB rfl,R,R1,a1,a',B3,ez⟩
 case round=>
 clear R R1 a1 a' B3 ez ck;obtain⟨aa,m,B1,eA,ec,I,dv,aI,R,cV,eb,a',B3,OE⟩:=hrel;have e0:ik B (iz q wr):=ij R0.out.aft eb;have b6:=R0.out;obtain⟨B0,f'⟩:∃b,B=b:=⟨_,rfl⟩;rw[f']at b6 e0 dW;have bH:ir 2 sM (old n1 wr) ⟨eA,ec,I⟩:=by
  obtain⟨A',c',e,hR⟩:=OE.out.row (P:=sM) rG (fun b hb=>lp hb) (fun _=>rfl) (by have:=aI.out;omega) (fun W b o y hy hj=>I7 hy hj);injection e with e1 e2 e3
  subst e1;subst e3;exact hR
 have bO:=iB (b6.P1 e0 cV.out.le cV.out.blk bH a6);clear cV bH;obtain⟨B,hB⟩:∃b,iz q wr=b:=⟨_,rfl⟩;rw[hB]at bO;have dX:B.heap.size=wr.heap.size:=by rw[<- hB,iZ]
 have fU:=iB dX;clear hB dX;have d1:Hid (lO wr q 2=aa):=iB (je bO.out.fields.2.2.1);replace R:Hid (X=if jq ⟨#[116,121,112,101]⟩ (L.drop aa) then EF m (I.map iW.er) (L.drop aa).tail else some (I.map iW.er,L.drop aa)):=by (show _=_;rw[R.out,Lt])
 have HC:=iB (nK bO.out ⟨#[116,121,112,101]⟩);obtain⟨zk,aC⟩:∃z,jq ⟨#[116,121,112,101]⟩ (L.drop aa)=z:=⟨_,rfl⟩;rw[aC]at HC R;have HZ:=iB aC;clear aC;go_wp2_with fail;refine HC.out.mono ?_;clear HC;rintro e bn ⟨rfl,aN⟩;have b':=iB (bO.out.after aN);have bh:ik (iz q wr) (iz q bn):=im (q:=q) aN;have ea:=ij eb bh;have cd:=dv;clear aN;have a7:Hid (iP bn b3 25 #[.slice none 0 0,.slice none 0 0]):=iB (kq B3.out an bh);have aj:Hid (kZ n1 57 2 oH yR (fun b=>decide (b<n1)) bn (.slice eA I.length ec) I):=OE.out.iv rG a6 (lp a6) bh;replace B3:=a7;replace OE:=aj;clear a7 aj;replace a':=jW a' (lZ bh);cases zk
 ·skip
  have cW:Hid (X=some (I.map iW.er,L.drop aa)):=by (show _=_;rw[R.out];rfl)
  have b4:I.length<=24:=by have:=aI.out;omega
  have cl:∀u∈I,u.tags.l.length<=16:=fun u hu=>(OE.out.inn u hu).few
  have aO:=iB cl;clear cl;have bH:ir 2 sM (old n1 bn) ⟨eA,ec,I⟩:=by
   obtain⟨A',c',e,hR⟩:=OE.out.row (P:=sM) rG (fun b hb=>lp hb) (fun _=>rfl) (by omega) (fun W b o y hy hj=>I7 hy hj);injection e with e1 e2 e3
   subst e1;subst e3;exact hR
  obtain⟨c0,c1,b8,c3,f2,l0⟩:=b'.out.fields;have ak:=B3.out;obtain⟨m0,m1⟩:=Bc ak;have ml:=jo ak;obtain⟨az,ay⟩:=iP.f2 ak;obtain⟨b0,cj,br,bM,a7,DE,db⟩:∃z,bn.setCell b3 (.slice eA I.length ec)=z/\iP z q 95 #[.slice A L.length c,en,.int .i64 (aa:Nat),(.slice eA I.length ec)]/\ik (iz q w0) (iz q z)/\Hid (iP z b3 25 #[(.slice eA I.length ec),.slice none 0 0])/\Hid (ir 2 sM (kK (iD (fun b=>decide (b<n1)) (.slice none 0 0)) z) ⟨eA,ec,I⟩)/\n1<=z.heap.size:=⟨_,rfl,b'.out.blk.qU (p:=⟨b3,0,none⟩) (ls an) _,iJ (k:=ko (by omega)) (h:=ea) _ _,ak.jx 0 _,((bH.below lU (j' cN _ _ _).below).sub rH (nO _ fun b hb=>by rcases vI hb with hb | hb;exact vO hb;cases hb)),by rw[jc];exact a'⟩;have b7:=b'.out.le;go_wp2_with fail;try rw[cj]
  clear cj c0 c1 b8 c3 f2 l0 m0 m1 ml az ay ak bH OE B3 b' bO R;obtain⟨Y,hY⟩:∃Y,mQ I k 96 [] (L.drop aa)=Y:=⟨_,rfl⟩;have cM:=iB hY;have cb:Hid (Y=mQ I k 96 (List.map nh.er []) (L.drop aa)):=iB hY.symm;clear hY;have et:Hid (kZ n1 65 8 rZ JY (fun b=>decide (b<n1)) b0 (.slice none 0 0) []):=vZ;have bz:=cd;have ct:=iB br;clear br;go_loopw [] (fun wr=>∃(i' m:Nat) (v:Value) (J:List nh),Hid (i0<=i')/\i'<=L.length/\Hid (J.length+m=96)/\Hid (Y=mQ I k m (J.map nh.er) (L.drop i'))/\Hid (iP wr q 95 #[.slice A L.length c,en,.int .i64 (i':Nat),(.slice eA I.length ec)])/\ik (iz q w0) (iz q wr)/\n1<=wr.heap.size/\Hid (iP wr b3 25 #[(.slice eA I.length ec),v])/\Hid (ir 2 sM (kK (iD (fun b=>decide (b<n1)) v) wr) ⟨eA,ec,I⟩)/\Hid (kZ n1 65 8 rZ JY (fun b=>decide (b<n1)) wr v J)) (fun wr=>L.length-lO wr q 2)
  case atStart=>exact⟨aa,96,_,[],bz,b7,iB rfl,cb,ct,bM,db,a7,DE,et⟩
  case round=>
  clear cb ct bM db a7 DE et a' b7;obtain⟨af,m,v,J,dq,b7,a8,R,BQ,e9,a',B3,DE,ON⟩:=hrel;have c_:ik B0 (iz q wr):=ij b6.aft e9;have aJ:ir 2 sM (old n1 wr) ⟨eA,ec,I⟩:=DE.out.sub rH (sZ wr fun b hb=>lF (lp hb));have ca:=iB (b6.P1 (el':=I) c_ b7 BQ.out aJ a6);clear aJ c_ BQ;obtain⟨B,hB⟩:∃b,iz q wr=b:=⟨_,rfl⟩;rw[hB]at ca;clear hB;have d1:Hid (lO wr q 2=af):=iB (je ca.out.fields.2.2.1);obtain⟨A7,c7,cG,_,_⟩:=ji ON.out.own;subst cG;replace R:Hid (Y=if jq ⟨#[110,111,100,101]⟩ (L.drop af) then Fk I k m (J.map nh.er) (L.drop af).tail else some (J.map nh.er,L.drop af)):=by (show _=_;rw[R.out,LK])
  have HC:=iB (nK ca.out ⟨#[110,111,100,101]⟩);obtain⟨zk,aC⟩:∃z,jq ⟨#[110,111,100,101]⟩ (L.drop af)=z:=⟨_,rfl⟩;rw[aC]at HC R;have HZ:=iB aC;clear aC;go_wp2_with fail;refine HC.out.mono ?_;clear HC;rintro e aA ⟨rfl,aN⟩;have cU:=iB (ca.out.after aN);have aS:ik (iz q wr) (iz q aA):=im (q:=q) aN;have cP:=ij e9 aS;have dp:=dq;clear aN;have a7:Hid (iP aA b3 25 #[(.slice eA I.length ec),(.slice A7 J.length c7)]):=iB (kq B3.out an aS);have aV:Hid (kZ n1 65 8 rZ JY (fun b=>decide (b<n1)) aA (.slice A7 J.length c7) J):=ON.out.iv uz a6 (lp a6) aS;have aY:Hid (ir 2 sM (kK (iD (fun b=>decide (b<n1)) (.slice A7 J.length c7)) aA) ⟨eA,ec,I⟩):=iB (DE.out.below lU (j_ (q:=q) (lF (lp a6)) aS).below);replace B3:=a7;replace ON:=aV;replace DE:=aY;clear a7 aV aY;replace a':=jW a' (lZ aS);cases zk
  ·skip
   have cb:Hid (mQ I k 96 [] (L.drop aa)=some (J.map nh.er,L.drop af)):=by (show _=_;rw[cM.out,R.out];rfl)
   have aJ:ir 2 sM (old n1 aA) ⟨eA,ec,I⟩:=DE.out.sub rH (sZ aA fun b hb=>lF (lp hb));obtain⟨AF,cF,cD,DF⟩:=ON.out.row (P:=Gy True) uz (fun b hb=>lp hb) (fun y=>rfl) (by have:=a8.out;omega) (fun W b o y hy hj=>Q5 hy hj);injection cD with e1 e2 e3
   subst e1;subst e3;have ak:=B3.out;obtain⟨m0,m1⟩:=Bc ak;have ml:=jo ak;obtain⟨az,ay⟩:=iP.f2 ak;have bc:iP aA r 25 #[.slice none 0 0,.slice none 0 0]:=lM (HB.out.after (k:=cP)) bX;obtain⟨fZ,fY⟩:=Bc bc;have fX:=jo bc;obtain⟨fJ,fI⟩:=iP.f2 bc;have eY:ik (iz q w) (iz q ((aA.setCell r (.slice eA I.length ec)).setCell ⟨r,1,none⟩ (.slice A7 J.length c7))):=iJ (k:=ko (lI hr)) (h:=iJ (k:=ko (lI hr)) (h:=ij ao cP) _ _) _ _;obtain⟨W,hW,eX,dU,dT,eW⟩:∃z,(aA.setCell r (.slice eA I.length ec)).setCell ⟨r,1,none⟩ (.slice A7 J.length c7)=z/\iP z r 25 #[(.slice eA I.length ec),(.slice A7 J.length c7)]/\ik (iz q w) (iz q z)/\(∀n,r<n->ik (old n aA) (old n z))/\iP z q 95 #[.slice A L.length c,en,.int .i64 (af:Nat),(.slice eA I.length ec)]:=⟨_,rfl,(bc.jx 0 _).jx 1 _,eY,fun n hn=>ij (j' hn _ _ _) (j' hn _ _ _),(cU.out.blk.qU (p:=⟨r,0,none⟩) (ls bX) _).qU (p:=⟨r,1,none⟩) (ls bX) _⟩;have eZ:=iB hW;clear hW;go_wp2_with fail;try rw[eZ.out]
   obtain⟨u0,u1⟩:=Bc eX;have cn:=aJ.below lU (dT n1 (by omega)).below;have fA:=DF.below Ax (dT n1 (by omega)).below;have fa:ik B0 (iz q W):=ij dW dU;have f_:=b6.P1 (el':=I) fa b7 eW cn a6;exact jR (v:=.agg #[.slice eA I.length ec,.slice A7 J.length c7]) (by simp[results,results13,go_sem,u0,u1]) rfl (sJ.ok cW.out b4 aO.out cb.out dU ⟨⟨eA,ec,I⟩,⟨A7,c7,J⟩⟩ ⟨cn.sub rH (iS (by omega) W),fA.sub Hs (iS (by omega) W)⟩ rfl rfl f_ rfl)
  replace R:Hid (Y=Fk I k m (J.map nh.er) (L.drop (af+1))):=by (show _=_;rw[R.out,iG rfl,tail_drop])
  have dd:=pI HZ.out;have ak:=B3.out;obtain⟨m0,m1⟩:=Bc ak;have ml:=jo ak;obtain⟨az,ay⟩:=iP.f2 ak;have HC:=iB (mF cU.out (J.length:Int) 96);go_wp2_with fail;refine HC.out.mono ?_;clear HC ak m0 m1 ml az ay;rintro e bm ⟨aN,hE⟩;have cT:=iB (cU.out.after aN);have aR:ik (iz q aA) (iz q bm):=im (q:=q) aN;have e8:=ij cP aR;have dn:=dp;clear aN;have a7:Hid (iP bm b3 25 #[(.slice eA I.length ec),(.slice A7 J.length c7)]):=iB (kq B3.out an aR);have aV:Hid (kZ n1 65 8 rZ JY (fun b=>decide (b<n1)) bm (.slice A7 J.length c7) J):=ON.out.iv uz a6 (lp a6) aR;have aY:Hid (ir 2 sM (kK (iD (fun b=>decide (b<n1)) (.slice A7 J.length c7)) bm) ⟨eA,ec,I⟩):=iB (DE.out.below lU (j_ (q:=q) (lF (lp a6)) aR).below);replace B3:=a7;replace ON:=aV;replace DE:=aY;clear a7 aV aY;replace a':=jW a' (lZ aR);rcases hE with⟨hlt4,rfl⟩ | ⟨hge4,hf⟩
  ·skip
   obtain⟨m,rfl⟩:∃j,m=j+1:=⟨m-1,by have:=a8.out;omega⟩;replace R:Hid (Y=(uO I k (L.drop (af+1))).bind fun (x,r)=>mQ I k m (J.map nh.er++[x]) r):=R.out;obtain⟨c0,c1,b8,c3,f2,l0⟩:=cT.out.fields;have dQ:=cT.out.few;obtain⟨aE,cf,fu,e7,bf⟩:∃z,bm.setCell ⟨q,2,none⟩ (.int .i64 ((af:Int)+1))=z/\Hid (Rd B q A c L en eA ec I z (af+1))/\ik (iz q w0) (iz q z)/\ik (iz q bm) (iz q z):=⟨_,rfl,cT.out.move (j:=af+1) dd,by rw[jJ];exact e8,by rw[jJ];exact iq _⟩;have dm:Hid (i0<=af+1):=iB (wc dn.out);go_wp2_with fail;try rw[cf]
   clear cf c0 c1 b8 c3 f2 l0;have a7:Hid (iP aE b3 25 #[(.slice eA I.length ec),(.slice A7 J.length c7)]):=iB (kq B3.out an bf);have aV:Hid (kZ n1 65 8 rZ JY (fun b=>decide (b<n1)) aE (.slice A7 J.length c7) J):=ON.out.iv uz a6 (lp a6) bf;have aY:Hid (ir 2 sM (kK (iD (fun b=>decide (b<n1)) (.slice A7 J.length c7)) aE) ⟨eA,ec,I⟩):=iB (DE.out.below lU (j_ (q:=q) (lF (lp a6)) bf).below);replace B3:=a7;replace ON:=aV;replace DE:=aY;clear a7 aV aY;replace a':=jW a' (lZ bf);have HC:Hid (∀U,ik aE U->Calls prog 36 #[.pointer (some q)] U (pk B q A c L en eA ec I U (af+1) (uO I k (L.drop (af+1))) (VG rZ JY nh.er U.heap.size))):=fun U hU=>N7 aO.out (by omega) (fu.out.after hU) (by omega)
   generalize bI:uO I k (L.drop (af+1))=Z at HC R;have cY:=B3.out;have HK:Hid (∀U,ik (iz q aE) (iz q U)->U.cell? ⟨b3,1,none⟩=some (.slice A7 J.length c7)):=fun U hU=>((kq cY an hU).cell 1).trans rfl
   have l3:=jo cY;go_wp2_with fail;refine jm (fun U:World=>U.cell? ⟨b3,1,none⟩=some (.slice A7 J.length c7)) [5,6,7] (by kernel_rfl) ?_;have a_:(fun U:World=>U.cell? ⟨b3,1,none⟩=some (.slice A7 J.length c7)) aE.drew:=HK.out _ inferInstance;refine wT 0 [1,5,6,7] (.pointer (some ⟨b3,1,none⟩)) a_ ?_;try simp only[Act.put,oF,oB,oq]
   refine wT 1 [5,6,7] ((.slice A7 J.length c7)) a_ ?_;try simp only[Act.put,oF,oB,oq]
   refine wT 2 [3,4,5,6,7] (.pointer (some q)) a_ ?_;try simp only[Act.put,oF,oB,oq]
   clear a_;refine lH 3 ?_;go_simp;go_at_call 36;refine (HC.out _ inferInstance).mono ?_;clear HC;rintro e w9 ⟨aZ,hY⟩;have aM:ik (iz q aE) (iz q w9):=ij (im inferInstance) aZ;clear aZ;cases Z with
   |none=>
    obtain⟨a,er,rfl,he⟩:=hY;unfold oD;exact⟨rfl,sJ.SA cW.out b4 aO.out (cM.out.trans R.out) (ij ao (ij e7 aM)) (jz a er he)⟩
   |some zz=>
   obtain⟨x9,r9⟩:=zz;obtain⟨v9,i9,rfl,cE,R9,cJ,bY⟩:=hY;subst cJ;obtain⟨⟨s1,⟨A1,c1,l1⟩,⟨A2,c2,l2⟩,⟨A3,c3,ag⟩,⟨A4,c4,l4⟩,⟨A5,c5,l5⟩,⟨A6,c6,l6⟩,⟨A8,c8,l8⟩⟩,cB,rfl,D9⟩:=cE;have dR:Value.agg (rZ (nh.mk s1 ⟨A1,c1,l1⟩ ⟨A2,c2,l2⟩ ⟨A3,c3,ag⟩ ⟨A4,c4,l4⟩ ⟨A5,c5,l5⟩ ⟨A6,c6,l6⟩ ⟨A8,c8,l8⟩)).toArray=.agg #[s1,.slice A1 l1.length c1,.slice A2 l2.length c2,.slice A3 ag.length c3,.slice A4 l4.length c4,.slice A5 l5.length c5,.slice A6 l6.length c6,.slice A8 l8.length c8]:=rfl;rw[dR];clear dR;have cB:=iB cB;refine kS (HK.out _ aM) ?_;have fx:=ON.out.iv uz a6 (lp a6) aM;have fC:=DE.out.below lU (j_ (q:=q) (lF (lp a6)) aM).below;have fH:=kq cY an aM;have bZ:∀g,((.slice A7 J.length c7):Value).ownBlock=some g->g<aE.heap.size:=fun g hg=>(ON.out.own.lt g hg).2
   have eN:n1<=w9.heap.size:=by have h1:=lZ aM;omega
   obtain⟨eJ,ba,ft,fl,bo⟩:∃z,w9.alloc (.cells #[s1,.slice A1 l1.length c1,.slice A2 l2.length c2,.slice A3 ag.length c3,.slice A4 l4.length c4,.slice A5 l5.length c5,.slice A6 l6.length c6,.slice A8 l8.length c8] 65)=z/\iP z q 95 #[.slice A L.length c,en,.int .i64 (i9:Nat),(.slice eA I.length ec)]/\ik (iz q w0) (iz q z)/\ik w9 z:=⟨_,rfl,mZ (w:=w9) R9.blk,ij (ij e7 aM) (im inferInstance),inferInstance⟩;have aW:=fx.after uz bo;have eD:=fC.below lU (oS bo).below;have eF:=mZ (w:=w9) (k:=bo) fH;have fE:JY (old aE.heap.size eJ) (nh.mk s1 ⟨A1,c1,l1⟩ ⟨A2,c2,l2⟩ ⟨A3,c3,ag⟩ ⟨A4,c4,l4⟩ ⟨A5,c5,l5⟩ ⟨A6,c6,l6⟩ ⟨A8,c8,l8⟩):=uz.below _ _ _ (jK bo).below D9;have gp:J.length<=96:=by have:=a8.out;omega
   refine lH 4 ?_;go_simp;try rw[ba]
   refine kS (HK.out _ (ij aM (im bo))) ?_;refine lH 5 ?_;obtain⟨bA,ax,aw,av,au⟩:=info_parts Rr;rw[<- ba];refine jZ (w9.alloc (.cells #[s1,.slice A1 l1.length c1,.slice A2 l2.length c2,.slice A3 ag.length c3,.slice A4 l4.length c4,.slice A5 l5.length c5,.slice A6 l6.length c6,.slice A8 l8.length c8] 65)) (.tmp 78) (.tmp 81) 23 rfl n1 65 bA _ 8 _ underlying23 ax aw av au rfl (by decide) (.slice A7 J.length c7) J.length (J.flatMap rZ) rfl (by rw[ba];exact aW.own) _ _ 1 1 [.string s1,.slice A1 l1.length c1,.slice A2 l2.length c2,.slice A3 ag.length c3,.slice A4 l4.length c4,.slice A5 l5.length c5,.slice A6 l6.length c6,.slice A8 l8.length c8] rfl (ki (w:=w9) rfl #[s1,.slice A1 l1.length c1,.slice A2 l2.length c2,.slice A3 ag.length c3,.slice A4 l4.length c4,.slice A5 l5.length c5,.slice A6 l6.length c6,.slice A8 l8.length c8] 65 _ rfl 1 8 rfl) (by intro u hu;simp only[la]at hu;rcases hu with rfl | rfl | rfl | rfl | rfl | rfl | rfl | rfl<;>rfl) (by unfold maxLen;omega) (by omega) (by rw[iH];omega) ?_;rw[ba];intro v5 bS ah ab b5;clear ax aw av au;obtain⟨A9,c9,rfl,_,_⟩:=ji ah;try refine kL ?_
   have cu:kZ n1 65 8 rZ JY (fun b=>decide (b<n1)) bS (.slice A9 (J.length+1) c9) (J++[(nh.mk s1 ⟨A1,c1,l1⟩ ⟨A2,c2,l2⟩ ⟨A3,c3,ag⟩ ⟨A4,c4,l4⟩ ⟨A5,c5,l5⟩ ⟨A6,c6,l6⟩ ⟨A8,c8,l8⟩)]):=aW.add (m:=aE.heap.size) uz fE (fun b hb=>by have hb:=vO hb;omega) (fun b hb=>bZ b hb) ah ab b5;have dY:∀b,((.slice A7 J.length c7):Value).ownBlock=some b->iD (fun b=>decide (b<n1)) (.slice A7 J.length c7) b=true:=fun b hb=>pr hb
   have eC:ir 2 sM (kK (iD (fun b=>decide (b<n1)) (.slice A9 (J.length+1) c9)) bS) ⟨eA,ec,I⟩:=(eD.below lU (C4 ab dY b5).below).sub rH (rp (fun b hb=>by rcases vI hb with hb | hb;exact lF (lF hb);exact pr hb) bS);have fs:=oY ft ab (fun e=>by have:=(aW.own.lt q e.symm).1;omega);have bk:=oY eF ab (fun e=>by have:=(aW.own.lt b3 e.symm).1;omega);have fk:=kF fl aW.own ab a6 dc;have bW:((.slice A9 (J.length+1) c9):Value).ownBlock≠some b3:=fun e=>by have:=(cu.own.lt b3 e).1;omega
   obtain⟨eI,dy,ej,fj,cX,fB,ep,cz⟩:∃z,bS.setCell ⟨b3,1,none⟩ (.slice A9 (J.length+1) c9)=z/\Hid (iP z q 95 #[.slice A L.length c,en,.int .i64 (i9:Nat),(.slice eA I.length ec)])/\ik (iz q w0) (iz q z)/\Hid (iP z b3 25 #[(.slice eA I.length ec),(.slice A9 (J.length+1) c9)])/\Hid (ir 2 sM (kK (iD (fun b=>decide (b<n1)) (.slice A9 (J.length+1) c9)) z) ⟨eA,ec,I⟩)/\Hid (kZ n1 65 8 rZ JY (fun b=>decide (b<n1)) z (.slice A9 (J.length+1) c9) (J++[(nh.mk s1 ⟨A1,c1,l1⟩ ⟨A2,c2,l2⟩ ⟨A3,c3,ag⟩ ⟨A4,c4,l4⟩ ⟨A5,c5,l5⟩ ⟨A6,c6,l6⟩ ⟨A8,c8,l8⟩)]))/\n1<=z.heap.size:=⟨_,rfl,iB (tV (p:=⟨b3,1,none⟩) fs (ls an) _),iJ (k:=ko (by omega)) (h:=fk) _ _,iB (Hg bk 1 (.slice A9 (J.length+1) c9)),eC.below lU (kJ (lF (lp cN)) _ _ _).below,cu.set uz (lp cN) bW 1 _,by rw[jc];exact jW (jW eN bo.below.size) ab.size⟩;obtain⟨m0,m1⟩:=Bc bk;have ml:=jo bk;obtain⟨az,ay⟩:=iP.f2 bk;refine lH 6 ?_;go_simp;try refine kL ?_
   refine lH 7 ?_;go_simp;try refine kL ?_
   try rw[dy]
   refine iT (by kernel_rfl) ?_ _;have dV:i9<=L.length:=R9.le;have b2:Hid ((J++[(nh.mk s1 ⟨A1,c1,l1⟩ ⟨A2,c2,l2⟩ ⟨A3,c3,ag⟩ ⟨A4,c4,l4⟩ ⟨A5,c5,l5⟩ ⟨A6,c6,l6⟩ ⟨A8,c8,l8⟩)]).length+m=96):=by (show _=_;rw[mo];have:=a8.out;simp;omega)
   replace R:Hid (Y=mQ I k m ((J++[(nh.mk s1 ⟨A1,c1,l1⟩ ⟨A2,c2,l2⟩ ⟨A3,c3,ag⟩ ⟨A4,c4,l4⟩ ⟨A5,c5,l5⟩ ⟨A6,c6,l6⟩ ⟨A8,c8,l8⟩)]).map nh.er) (L.drop i9)):=by (show _=_;rw[s_];show Y=mQ I k m (J.map nh.er++[nh.er (nh.mk s1 ⟨A1,c1,l1⟩ ⟨A2,c2,l2⟩ ⟨A3,c3,ag⟩ ⟨A4,c4,l4⟩ ⟨A5,c5,l5⟩ ⟨A6,c6,l6⟩ ⟨A8,c8,l8⟩)]) _;rw[cB.out];exact R.out)
   have fW:Hid (kZ n1 65 8 rZ JY (fun b=>decide (b<n1)) eI (.slice A9 (J++[(nh.mk s1 ⟨A1,c1,l1⟩ ⟨A2,c2,l2⟩ ⟨A3,c3,ag⟩ ⟨A4,c4,l4⟩ ⟨A5,c5,l5⟩ ⟨A6,c6,l6⟩ ⟨A8,c8,l8⟩)]).length c9) (J++[(nh.mk s1 ⟨A1,c1,l1⟩ ⟨A2,c2,l2⟩ ⟨A3,c3,ag⟩ ⟨A4,c4,l4⟩ ⟨A5,c5,l5⟩ ⟨A6,c6,l6⟩ ⟨A8,c8,l8⟩)])):=by (rw[mo];exact ep)
   have eQ:Hid (i0<=i9):=iB (jW dm.out bY);clear m0 m1 ml az ay;go_wp2_with fail;go_roundw
   case rel=>exact⟨i9,m,(.slice A9 (J.length+1) c9),(J++[(nh.mk s1 ⟨A1,c1,l1⟩ ⟨A2,c2,l2⟩ ⟨A3,c3,ag⟩ ⟨A4,c4,l4⟩ ⟨A5,c5,l5⟩ ⟨A6,c6,l6⟩ ⟨A8,c8,l8⟩)]),eQ,dV,b2,R,ej,fj,cz,cX,fB,ep⟩
   case measure=>(rw[je ((ej.out.cell 2).trans rfl),d1.out];omega)
  obtain rfl:m=0:=by have:=a8.out;omega
  have bQ:Hid (Y=none):=R.out;obtain⟨a,er,rfl,he⟩:=hf;unfold oD;go_wp2_with fail;exact⟨rfl,sJ.SA cW.out b4 aO.out (cM.out.trans bQ.out) (ij ao e8) (jz a er he)⟩
 replace R:Hid (X=EF m (I.map iW.er) (L.drop (aa+1))):=by (show _=_;rw[R.out,iG rfl,tail_drop])
 have de:=pI HZ.out;obtain⟨c0,c1,b8,c3,f2,l0⟩:=b'.out.fields;have HC:=iB (mF b'.out (I.length:Int) 24);go_wp2_with fail;refine HC.out.mono ?_;clear HC c0 c1 b8 c3 f2 l0;rintro e b0 ⟨aN,hE⟩;have br:=iB (b'.out.after aN);have bg:ik (iz q bn) (iz q b0):=im (q:=q) aN;have bM:=ij ea bg;have bz:=cd;clear aN;have a7:Hid (iP b0 b3 25 #[.slice none 0 0,.slice none 0 0]):=iB (kq B3.out an bg);have aj:Hid (kZ n1 57 2 oH yR (fun b=>decide (b<n1)) b0 (.slice eA I.length ec) I):=OE.out.iv rG a6 (lp a6) bg;replace B3:=a7;replace OE:=aj;clear a7 aj;replace a':=jW a' (lZ bg);rcases hE with⟨hlt4,rfl⟩ | ⟨hge4,hf⟩
 ·skip
  obtain⟨m,rfl⟩:∃j,m=j+1:=⟨m-1,by have:=aI.out;omega⟩;replace R:Hid (X=(pV (L.drop (aa+1))).bind fun (s,r)=>(iF [⟨#[61]⟩] r).bind fun (_,r)=>(qH 16 [] r).bind fun (tg,r)=>(iF [⟨#[59]⟩] r).bind fun (_,r)=>mE m (I.map iW.er++[⟨s,tg⟩]) r):=R.out;obtain⟨c0,c1,b8,c3,f2,l0⟩:=br.out.fields;have dQ:=br.out.few;obtain⟨d_,ch,fw,fo,bL⟩:∃z,b0.setCell ⟨q,2,none⟩ (.int .i64 ((aa:Int)+1))=z/\Hid (Rd B q A c L en eA ec I z (aa+1))/\ik (iz q w0) (iz q z)/\ik (iz q b0) (iz q z):=⟨_,rfl,br.out.move (j:=aa+1) de,by rw[jJ];exact bM,by rw[jJ];exact iq _⟩;have du:Hid (i0<=aa+1):=iB (wc bz.out);go_wp2_with fail;try rw[ch]
  clear ch c0 c1 b8 c3 f2 l0;have a7:Hid (iP d_ b3 25 #[.slice none 0 0,.slice none 0 0]):=iB (kq B3.out an bL);have aj:Hid (kZ n1 57 2 oH yR (fun b=>decide (b<n1)) d_ (.slice eA I.length ec) I):=OE.out.iv rG a6 (lp a6) bL;replace B3:=a7;replace OE:=aj;clear a7 aj;replace a':=jW a' (lZ bL);have HC:=iB (qb fw.out);replace R:Hid (X=Option.bind (pV (L.drop (aa+1))) _):=R.out;generalize fT:pV (L.drop (aa+1))=Y at HC R;go_wp2_with fail;refine HC.out.mono ?_;clear HC;rintro e aB ⟨aZ,hY⟩;have bK:=aZ;have aZ:=ij fo aZ;cases Y with
  |none=>
   obtain⟨a,er,rfl,he⟩:=hY;unfold oD;go_wp2_with fail;exact⟨rfl,sJ.bad R.out (ij ao aZ) (jz a er he)⟩
  |some y=>
  obtain⟨eG,gi⟩:=y;obtain⟨gf,bp,rfl,dD,RZ,hr,hi⟩:=hY;subst hr;have eo:=iB RZ;have e':=aZ;have dt:Hid (i0<=bp):=jW du.out hi;have dN:=hi;clear RZ aZ hi;obtain⟨rfl,bE⟩:=dD;have a7:Hid (iP aB b3 25 #[.slice none 0 0,.slice none 0 0]):=iB (kq B3.out an bK);have aj:Hid (kZ n1 57 2 oH yR (fun b=>decide (b<n1)) aB (.slice eA I.length ec) I):=OE.out.iv rG a6 (lp a6) bK;replace B3:=a7;replace OE:=aj;clear a7 aj;replace a':=jW a' (lZ bK);obtain⟨s,hs⟩:∃s,eG=s:=⟨_,rfl⟩;rw[hs]at R bE⊢;clear hs;have hS:=iB bE;clear bE;obtain⟨ra,b1⟩:∃g,aB.heap.size=g:=⟨_,rfl⟩;have fK:n1<=ra:=by omega
  have aG:ra≠q:=by omega
  obtain⟨ga,cg,fv,e_,cp,ee,d'⟩:∃z,aB.alloc (.cells #[s,.slice none 0 0] 57)=z/\Hid (Rd B q A c L en eA ec I z bp)/\ik (iz q w0) (iz q z)/\ik (iz q aB) (iz q z)/\Hid (iP z ra 57 #[s,.slice none 0 0])/\Hid (ra+1=z.heap.size):=⟨_,rfl,eo.out.after inferInstance,ij e' (im inferInstance),im inferInstance,by rw[<- b1];exact jC ..,by (show _=_;rw[iH,b1])⟩;have ds:=dt;have cC:=iB cg;clear cg;go_wp2_with fail;try rw[b1]
  try rw[cC.out]
  try rw[d'.out]
  have ey:=OE;have cy:n1<=aB.heap.size:=a';have cq:=iB e';have ao:=ij ao cq.out;have fV:B.heap.size<=ra:=by have:=eo.out.base;omega
  obtain⟨w0,bD⟩:∃z,aB=z:=⟨_,rfl⟩;rw[bD]at cp b1 ao;have e_:=cp;have dG:w0.heap.size<=ra:=lI b1;have fO:=iB b1;have dz:=iB bD;clear b1 bD;have HC:=iB (jH fv.out [⟨#[61]⟩] (by decide));replace R:Hid (X=Option.bind (iF [⟨#[61]⟩] (L.drop bp)) _):=R.out;generalize fS:iF [⟨#[61]⟩] (L.drop bp)=Y at HC R;go_wp2_with fail;refine HC.out.mono ?_;clear HC;rintro e bu ⟨aZ,hY⟩;have dZ:=aZ;have aZ:=ij e_ aZ;cases Y with
  |none=>
   obtain⟨a,er,rfl,he⟩:=hY;unfold oD;go_wp2_with fail;exact⟨rfl,sJ.bad R.out (ij ao aZ) (jz a er he)⟩
  |some y=>
  obtain⟨g',gh⟩:=y;obtain⟨gd,cA,rfl,dC,RZ,hr,hi⟩:=hY;subst hr;have ek:=iB RZ;have fm:=aZ;have dr:Hid (i0<=cA):=jW ds.out hi;have dM:=hi;clear RZ aZ hi;subst dC;have cQ:iP bu ra 57 #[s,.slice none 0 0]:=kq ee.out aG dZ;clear ee;obtain⟨n2,dH⟩:∃n,ra+1=n:=⟨_,rfl⟩;have eK:ra<n2:=by omega
  have ai:q<n2:=by omega
  have gj:w0.heap.size<=n2:=by omega
  have gk:B.heap.size<=n2:=by omega
  have da:n2<=bu.heap.size:=by have:=cQ.lt;omega
  clear d';have fP:=iB dH;clear dH;obtain⟨v0,cH⟩:∃v,Value.slice none 0 0=v:=⟨_,rfl⟩;obtain⟨bs,bV⟩:∃y:List ByteArray,y=[]:=⟨_,rfl⟩;have RB:Hid (iP bu ra 57 #[s,v0]):=by rw[<- cH];exact cQ
  have OT:Hid (kZ n2 9 1 mz rk (fun b=>decide (b<n2)) bu v0 bs):=by (show kZ n2 9 1 mz rk (fun b=>decide (b<n2)) bu v0 bs;rw[<- cH,bV];exact vZ)
  replace R:Hid (X=(qH 16 bs (L.drop cA)).bind fun (tg,r)=>(iF [⟨#[59]⟩] r).bind fun (_,r)=>mE m (I.map iW.er++[⟨s,tg⟩]) r):=by (show _=_;rw[bV];exact R.out)
  have bG:Hid (bs.length+16=16):=by (show _=_;rw[bV];rfl)
  clear cQ cH bV;go_wp2_with fail;go_loopw [] (fun wr=>∃(i' m':Nat) (v:Value) (J:List ByteArray),Hid (i0<=i')/\bp<=i'/\Hid (J.length+m'=16)/\Hid (X=(qH m' J (L.drop i')).bind fun (tg,r)=>(iF [⟨#[59]⟩] r).bind fun (_,r)=>mE m (I.map iW.er++[⟨s,tg⟩]) r)/\Hid (Rd B q A c L en eA ec I wr i')/\ik (iz q w0) (iz q wr)/\n2<=wr.heap.size/\Hid (iP wr ra 57 #[s,v])/\Hid (kZ n2 9 1 mz rk (fun b=>decide (b<n2)) wr v J)) (fun wr=>L.length-lO wr q 2)
  case atStart=>exact⟨cA,16,v0,bs,dr,dM,bG,R,ek,fm,da,RB,OT⟩
  case round=>
  clear R RB OT bG da ek;obtain⟨al,m',v,J,dk,dL,aP,R,cS,fi,ae,RB,OT⟩:=hrel;have d2:Hid (lO wr q 2=al):=iB (je cS.out.fields.2.2.1);have OL:=OT;clear OT;have HC:=iB (qv cS.out 1);obtain⟨zk,aC⟩:∃z,ju 1 (L.drop al)=z:=⟨_,rfl⟩;rw[aC]at HC;have fz:=iB aC;clear aC;go_wp2_with fail;refine HC.out.mono ?_;clear HC;rintro e aQ ⟨rfl,aN⟩;have cR:=iB (cS.out.after aN);have be:ik (iz q wr) (iz q aQ):=im (q:=q) aN;have e6:=ij fi be;have dj:=dk;clear aN;have aq:Hid (iP aQ ra 57 #[s,v]):=iB (kq RB.out aG be);have ar:Hid (kZ n2 9 1 mz rk (fun b=>decide (b<n2)) aQ v J):=OL.out.iv lS ai (lp ai) be;clear RB OL;have RB:=aq;have OL:=ar;clear aq ar;replace ae:=jW ae (lZ be);cases zk
  ·skip
   have cL:=BW fz.out;replace R:Hid (X=(pV (L.drop al)).bind fun _=>(none:Option (List KD×List Tk))):=by (show _=_;rw[R.out];cases m' with | zero=>(rw[cL];rfl) | succ m'=>(rw[qH,cL];rfl))
   have HC:Hid (∀U,ik aQ U->Calls prog 32 #[.pointer (some q)] U (pk B q A c L en eA ec I U al (pV (L.drop al)) (fun s w' v=>v=.string s/\s.size<=65536))):=fun U hU=>qb (cR.out.after hU)
   generalize bI:pV (L.drop al)=Y at HC R;have b_:=RB.out;have HK:Hid (∀U,ik (iz q aQ) (iz q U)->U.cell? ⟨ra,1,none⟩=some v):=fun U hU=>((kq b_ aG hU).cell 1).trans rfl
   have df:=jo b_;go_wp2_with fail;refine jm (fun U:World=>U.cell? ⟨ra,1,none⟩=some v) [5,6,7] (by kernel_rfl) ?_;have a_:(fun U:World=>U.cell? ⟨ra,1,none⟩=some v) aQ.drew:=HK.out _ inferInstance;refine wT 0 [1,5,6,7] (.pointer (some ⟨ra,1,none⟩)) a_ ?_;try simp only[Act.put,oF,oB,oq]
   refine wT 1 [5,6,7] (v) a_ ?_;try simp only[Act.put,oF,oB,oq]
   refine wT 2 [3,4,5,6,7] (.pointer (some q)) a_ ?_;try simp only[Act.put,oF,oB,oq]
   clear a_;refine lH 3 ?_;go_simp;go_at_call 32;refine (HC.out _ inferInstance).mono ?_;clear HC;rintro e w9 ⟨aZ,hY⟩;have aM:ik (iz q aQ) (iz q w9):=ij (im inferInstance) aZ;clear aZ;cases Y with
   |none=>
    obtain⟨a,er,rfl,he⟩:=hY;unfold oD;exact⟨rfl,sJ.bad R.out (ij ao (ij e6 aM)) (jz a er he)⟩
   |some y=>
   exact ((show False from by rw[cL]at bI;cases bI)).elim
  obtain⟨A7,c7,cG,_,_⟩:=ji OL.out.own;subst cG;have b9:=RB.out;obtain⟨m0,m1⟩:=Bc b9;have ml:=jo b9;obtain⟨az,ay⟩:=iP.f2 b9;have HC:=iB (mF cR.out (J.length:Int) 16);go_wp2_with fail;refine HC.out.mono ?_;clear HC m0 m1 ml az ay b9;rintro e aD ⟨aN,hE⟩;have fr:=iB (cR.out.after aN);have bd:ik (iz q aQ) (iz q aD):=im (q:=q) aN;have cO:=ij e6 bd;have di:=dj;clear aN;have aq:Hid (iP aD ra 57 #[s,(.slice A7 J.length c7)]):=iB (kq RB.out aG bd);have ar:Hid (kZ n2 9 1 mz rk (fun b=>decide (b<n2)) aD (.slice A7 J.length c7) J):=OL.out.iv lS ai (lp ai) bd;clear RB OL;have RB:=aq;have OL:=ar;clear aq ar;replace ae:=jW ae (lZ bd);rcases hE with⟨hlt4,rfl⟩ | ⟨hge4,hf⟩
  ·skip
   obtain⟨m',rfl⟩:∃j,m'=j+1:=⟨m'-1,by have:=aP.out;omega⟩;replace R:Hid (X=(pV (L.drop al)).bind fun (u,r)=>(if jq ⟨#[124]⟩ r then qH m' (J++[u]) r.tail else some (J++[u],r)).bind fun (tg,r)=>(iF [⟨#[59]⟩] r).bind fun (_,r)=>mE m (I.map iW.er++[⟨s,tg⟩]) r):=by (show _=_;rw[R.out,qH];cases pV (L.drop al)<;>rfl)
   obtain⟨v,hv⟩:∃z,Value.slice A7 J.length c7=z:=⟨_,rfl⟩;rw[hv]at RB OL;have HC:Hid (∀U,ik aD U->Calls prog 32 #[.pointer (some q)] U (pk B q A c L en eA ec I U al (pV (L.drop al)) (fun s w' v=>v=.string s/\s.size<=65536))):=fun U hU=>qb (fr.out.after hU)
   generalize bI:pV (L.drop al)=Y at HC R;have b_:=RB.out;have HK:Hid (∀U,ik (iz q aD) (iz q U)->U.cell? ⟨ra,1,none⟩=some v):=fun U hU=>((kq b_ aG hU).cell 1).trans rfl
   have df:=jo b_;go_wp2_with fail;refine jm (fun U:World=>U.cell? ⟨ra,1,none⟩=some v) [5,6,7] (by kernel_rfl) ?_;have a_:(fun U:World=>U.cell? ⟨ra,1,none⟩=some v) aD.drew:=HK.out _ inferInstance;refine wT 0 [1,5,6,7] (.pointer (some ⟨ra,1,none⟩)) a_ ?_;try simp only[Act.put,oF,oB,oq]
   refine wT 1 [5,6,7] (v) a_ ?_;try simp only[Act.put,oF,oB,oq]
   refine wT 2 [3,4,5,6,7] (.pointer (some q)) a_ ?_;try simp only[Act.put,oF,oB,oq]
   clear a_;refine lH 3 ?_;go_simp;go_at_call 32;refine (HC.out _ inferInstance).mono ?_;clear HC;rintro e w9 ⟨aZ,hY⟩;have aM:ik (iz q aD) (iz q w9):=ij (im inferInstance) aZ;clear aZ;cases Y with
   |none=>
    obtain⟨a,er,rfl,he⟩:=hY;unfold oD;exact⟨rfl,sJ.bad R.out (ij ao (ij cO aM)) (jz a er he)⟩
   |some y=>
   obtain⟨x9,r9⟩:=y;obtain⟨v9,i9,rfl,cE,R9,cJ,bY⟩:=hY;subst cJ;obtain⟨rfl,cI⟩:=cE;refine kS (HK.out _ aM) ?_;have bZ:∀g,v.ownBlock=some g->n2<=g/\g<aD.heap.size:=fun g hg=>OL.out.own.lt g hg
   have ev:=OL.out.iv lS ai (lp ai) aM;have b9:iP w9 ra 57 #[s,v]:=kq b_ aG aM;have eU:J.length<=100000:=by have:=aP.out;omega
   have bU:n2<=w9.heap.size:=by have h1:=lZ aM;have h2:=ae;omega
   obtain⟨cZ,aH,ei,fh,bT⟩:∃v,w9.alloc (.cells #[x9] 9)=v/\Rd B q A c L en eA ec I v i9/\ik (iz q w0) (iz q v)/\ik w9 v:=⟨_,rfl,R9.after inferInstance,ij (ij cO aM) (im inferInstance),inferInstance⟩;have aL:=ev.after lS bT;have eE:rk (old aD.drew.heap.size cZ) (x9):=cI;have cr:iP cZ ra 57 #[s,v]:=mZ (w:=w9) (k:=bT) b9;have eS:=iy aH;refine lH 4 ?_;go_simp;try rw[aH]
   refine kS (HK.out _ (ij aM (im bT))) ?_;refine lH 5 ?_;obtain⟨bA,ax,aw,av,au⟩:=info_parts J7;rw[<- aH];refine jZ (w9.alloc (.cells #[x9] 9)) (.tmp 36) (.tmp 39) 55 rfl n2 9 bA _ 1 _ underlying55 ax aw av au rfl (by decide) v J.length (J.flatMap mz) rfl (by rw[aH];exact aL.own) _ _ 1 1 [.string x9] rfl (ki (w:=w9) rfl #[x9] 9 _ rfl 1 1 rfl) (by intro u hu;simp only[la]at hu;subst hu;rfl) (by unfold maxLen;omega) (by omega) (by rw[iH];omega) ?_;rw[aH];intro v5 cx ah ab b5;clear ax aw av au;obtain⟨A5,c5,rfl,_,_⟩:=ji ah;have bP:kZ n2 9 1 mz rk (fun b=>decide (b<n2)) cx (.slice A5 (J.length+1) c5) (J++[x9]):=aL.add lS eE (fun b hb=>by (have hb:=vO hb;have h2:=ae;show b<aD.heap.size;omega)) (fun b hb=>(bZ b hb).2) ah ab b5;have eh:=ei.grown aL.own ab ai (by omega);have fg:=kF fh aL.own ab ai (by omega);have aU:iP cx ra 57 #[s,v]:=oY cr ab (fun e=>by have:=(aL.own.lt ra e.symm).1;omega);have bW:((.slice A5 (J.length+1) c5):Value).ownBlock≠some ra:=fun e=>by have:=(bP.own.lt ra e).1;omega
   obtain⟨eH,v2,bB,gq,eg,ff,ed,eu⟩:∃z v2,cx.setCell ⟨ra,1,none⟩ (.slice A5 (J.length+1) c5)=z/\v2.ownBlock≠some ra/\Hid (Rd B q A c L en eA ec I z i9)/\ik (iz q w0) (iz q z)/\Hid (iP z ra 57 #[s,v2])/\Hid (kZ n2 9 1 mz rk (fun b=>decide (b<n2)) z v2 (J++[x9])):=⟨_,(.slice A5 (J.length+1) c5),rfl,bW,eh.set aG (by omega) 1 _,iJ (k:=⟨by rw[iZ];omega⟩) (h:=fg) _ _,aU.jx 1 _,bP.set lS (lp eK) bW 1 _⟩;have cc:Hid (i0<=i9):=iB (jW di.out bY);have eL:n2<=eH.heap.size:=by rw[<- bB,jc];exact jW (jW bU bT.below.size) ab.size
   have gw:al<=i9:=bY;try refine kL ?_
   obtain⟨m0,m1⟩:=Bc aU;have ml:=jo aU;obtain⟨az,ay⟩:=iP.f2 aU;refine lH 6 ?_;go_simp;try refine kL ?_
   refine lH 7 ?_;go_simp;try refine kL ?_
   try rw[bB]
   refine iT (by kernel_rfl) ?_ _;clear m0 az m1 ay ml bB aU eh bP ah ab b5 cr eE aL ei aH eS ev b9 R9 HK b_ RB OL bZ aM df eU bU;have RB:=ed;have OL:=eu;clear ae;have ae:=eL;clear ed eu;have cm:al<i9:=by have h1:=mm bI;rw[nY,nY]at h1;have:=eg.out.le;omega
   have a8:Hid ((J++[x9]).length+m'=16):=by (show _=_;rw[mo];have:=aP.out;simp;omega)
   have eB:Hid (X=if jq ⟨#[124]⟩ (L.drop i9) then (qH m' (J++[x9]) (L.drop i9).tail).bind (fun (tg,r)=>(iF [⟨#[59]⟩] r).bind fun (_,r)=>mE m (I.map iW.er++[⟨s,tg⟩]) r) else (iF [⟨#[59]⟩] (L.drop i9)).bind fun (_,r)=>mE m (I.map iW.er++[⟨s,J++[x9]⟩]) r):=by
    have h9:X=(if jq ⟨#[124]⟩ (L.drop i9) then qH m' (J++[x9]) (L.drop i9).tail else some (J++[x9],L.drop i9)).bind fun (tg,r)=>(iF [⟨#[59]⟩] r).bind fun (_,r)=>mE m (I.map iW.er++[⟨s,tg⟩]) r:=R.out
    show _=_
    rw[h9];by_cases hc:jq ⟨#[124]⟩ (L.drop i9)=true
    ·rw[iG hc,iG hc]
    rw[iV hc,iV hc];rfl
   replace R:=eB;clear eB;have HC:=iB (tB eg.out ⟨#[124]⟩);go_wp2_with fail;refine HC.out.mono ?_;clear HC;rintro e bl ⟨z,hz,rfl,RZ,aZ⟩;have e5:=ij ff aZ;have HZ:=iB hz;clear hz;have aK:=aZ;cases z
   ·skip
    have bN:Hid (Rd B q A c L en eA ec I bl i9):=iB RZ;replace R:=iB (R.out.trans (iV (Qa HZ)));have bx:=cc;clear RZ HZ aZ;have aq:Hid (iP bl ra 57 #[s,v2]):=iB (kq RB.out aG aK);have ar:Hid (kZ n2 9 1 mz rk (fun b=>decide (b<n2)) bl v2 (J++[x9])):=OL.out.iv lS ai (lp ai) aK;clear RB OL;have RB:=aq;have OL:=ar;clear aq ar;replace ae:=jW ae (lZ aK);have HC:=iB (jH bN.out [⟨#[59]⟩] (by decide));replace R:Hid (X=Option.bind (iF [⟨#[59]⟩] (L.drop i9)) _):=R.out;generalize fR:iF [⟨#[59]⟩] (L.drop i9)=Y at HC R;go_wp2_with fail;refine HC.out.mono ?_;clear HC;rintro e ad ⟨aZ,hY⟩;have bJ:=aZ;have aZ:=ij e5 aZ;cases Y with
    |none=>
     obtain⟨a,er,rfl,he⟩:=hY;unfold oD;go_wp2_with fail;exact⟨rfl,sJ.bad R.out (ij ao aZ) (jz a er he)⟩
    |some y=>
    obtain⟨g_,gg⟩:=y;obtain⟨gb,i84,rfl,dB,RZ,hr,hi⟩:=hY;subst hr;have ef:=iB RZ;have fe:=aZ;have dh:Hid (i0<=i84):=jW bx.out hi;have dK:=hi;clear RZ aZ hi;subst dB;have aq:Hid (iP ad ra 57 #[s,v2]):=iB (kq RB.out aG bJ);have ar:Hid (kZ n2 9 1 mz rk (fun b=>decide (b<n2)) ad v2 (J++[x9])):=OL.out.iv lS ai (lp ai) bJ;clear RB OL;have RB:=aq;have OL:=ar;clear aq ar;replace ae:=jW ae (lZ bJ);obtain⟨tA,tc,cD,DF⟩:=OL.out.row (P:=sR) lS (fun b hb=>lp hb) (fun y=>rfl) (by have:=a8.out;omega) (fun W b o y hy hj=>⟨hj 0 _ rfl,jW hy (by decide)⟩);subst cD;obtain⟨tl,dE⟩:∃l,J++[x9]=l:=⟨_,rfl⟩;rw[dE]at RB DF R a8;have DT:=iB DF;replace R:Hid (X=mE m (I.map iW.er++[⟨s,tl⟩]) (L.drop i84)):=R.out;have dF:tl.length<=16:=by have:=a8.out;omega
    clear OL DF dE a8;have bC:=dz.out;have bF:=dG;rw[<- bC]at bF;subst bC;have aF:=fe;have a7:Hid (iP ad b3 25 #[.slice none 0 0,.slice none 0 0]):=iB (kq B3.out an aF);have aj:Hid (kZ n1 57 2 oH yR (fun b=>decide (b<n1)) ad (.slice eA I.length ec) I):=OE.out.iv rG a6 (lp a6) aF;replace B3:=a7;replace OE:=aj;clear a7 aj;have aT:=ij cq.out aF;have eM:n1<=ad.heap.size:=by have:=ae;omega
    have gx:aa<i84:=by have h1:=dN;have h2:=dL;have h3:=cm;have h4:=dK;omega
    have cK:=ef.out.blk;have bb:=RB.out;have HK:Hid (∀U,ik ad U->U.cell? ⟨q,3,none⟩=some (.slice eA I.length ec)/\U.cell? ra=some (.string s)/\U.cell? ⟨ra,1,none⟩=some (.slice tA tl.length tc)):=fun U hU=>⟨((mZ (k:=hU) cK).cell 3).trans rfl,((mZ (k:=hU) bb).cell 0).trans rfl,((mZ (k:=hU) bb).cell 1).trans rfl⟩
    have gn:=jo cK;have gm:=jo bb;go_wp2_with fail;refine jm (fun U:World=>U.cell? ⟨q,3,none⟩=some (.slice eA I.length ec)/\U.cell? ra=some (.string s)/\U.cell? ⟨ra,1,none⟩=some (.slice tA tl.length tc)) [8,9,10] (by kernel_rfl) ?_;have a_:(fun U:World=>U.cell? ⟨q,3,none⟩=some (.slice eA I.length ec)/\U.cell? ra=some (.string s)/\U.cell? ⟨ra,1,none⟩=some (.slice tA tl.length tc)) ad.drew:=HK.out _ inferInstance;refine wT 0 [8,9,10] (.pointer (some q)) a_ ?_;try simp only[Act.put,oF,oB,oq]
    refine wT 1 [2,3,4,7,8,9,10] (.pointer (some q)) a_ ?_;try simp only[Act.put,oF,oB,oq]
    refine wT 2 [3,4,7,8,9,10] (.pointer (some q)) a_ ?_;try simp only[Act.put,oF,oB,oq]
    refine wT 3 [4,7,8,9,10] (.pointer (some ⟨q,3,none⟩)) a_ ?_;try simp only[Act.put,oF,oB,oq]
    refine wT 4 [7,8,9,10] ((.slice eA I.length ec)) a_ ?_;try simp only[Act.put,oF,oB,oq]
    refine wT 5 [6,7,8,9,10] (.agg #[s,.slice tA tl.length tc]) a_ ?_;try simp only[Act.put,oF,oB,oq]
    clear a_;obtain⟨bR,dx,bw,bU,cI,aX,fq,fc⟩:∃z,(ad.alloc (.cells #[s,.slice tA tl.length tc] 57)).drew=z/\ik ad z/\oZ z (ad.heap.size+1) 2 (some ⟨ad.heap.size,0,none⟩) 1 (oH (iW.mk s ⟨tA,tc,tl⟩))/\n1<=z.heap.size/\kZ n1 57 2 oH yR (fun b=>decide (b<n1)) z (.slice eA I.length ec) I/\iP z q 95 #[.slice A L.length c,en,.int .i64 (i84:Nat),.slice eA I.length ec]/\ik (iz q ad) (iz q z):=⟨_,rfl,inferInstance,uY (jC ..).drew _ rfl 1 2 rfl,by rw[xy,iH];omega,OE.out.after rG inferInstance,mZ (w:=ad) cK,im inferInstance⟩;have fG:iP bR b3 25 #[.slice none 0 0,.slice none 0 0]:=mZ (w:=ad) (k:=bw) B3.out;have gv:aB.heap.size<=ad.heap.size:=by have h1:=lZ aF;exact h1
    have fD:yR (old aB.heap.size bR) (iW.mk s ⟨tA,tc,tl⟩):=⟨hS.out,(DT.out.below lD (jK bw).below).sub sj (iS (by omega) bR),dF⟩;refine lH 6 ?_;go_simp;try rw[dx]
    refine kS (HK.out _ bw) ?_;refine lH 7 ?_;obtain⟨bA,ax,aw,av,au⟩:=info_parts Rk;refine jZ bR (.tmp 52) (.tmp 54) 22 rfl n1 57 bA _ 2 _ underlying22 ax aw av au rfl (by decide) (.slice eA I.length ec) I.length (I.flatMap oH) rfl aX.own _ _ 1 1 (oH (iW.mk s ⟨tA,tc,tl⟩)) rfl bU (by intro u hu;simp only[oH,la]at hu;rcases hu with rfl | rfl<;>rfl) (by unfold maxLen;omega) (by omega) cI ?_;intro v5 bt ah ab b5;clear ax aw av au;obtain⟨A5,c5,rfl,_,_⟩:=ji ah;have dP:∀b,((.slice eA I.length ec):Value).ownBlock=some b->b<aB.heap.size:=fun b hb=>(ey.out.own.lt b hb).2
    have cv:kZ n1 57 2 oH yR (fun b=>decide (b<n1)) bt (.slice A5 (I.length+1) c5) (I++[(iW.mk s ⟨tA,tc,tl⟩)]):=aX.add (m:=aB.heap.size) rG fD (fun b hb=>by have hb:=vO hb;have:=cy;omega) dP ah ab b5;have bq:iP bt q 95 #[.slice A L.length c,en,.int .i64 (i84:Nat),.slice eA I.length ec]:=oY fq ab (fun e=>by have:=(aX.own.lt q e.symm).1;omega);have bj:iP bt ra 57 #[s,(.slice tA tl.length tc)]:=oY (mZ (w:=ad) (k:=bw) bb) ab (fun e=>by have:=dP ra e.symm;have:=bF;omega);have fF:iP bt b3 25 #[.slice none 0 0,.slice none 0 0]:=oY fG ab (fun e=>by have:=(aX.own.lt b3 e.symm).1;omega);have fb:=kF (ij aT fc) aX.own ab a6 dc;obtain⟨cw,dw,fp,e4,cX,ew,cz⟩:∃z,bt.setCell ⟨q,3,none⟩ (.slice A5 (I.length+1) c5)=z/\iP z q 95 #[.slice A L.length c,en,.int .i64 (i84:Nat),(.slice A5 (I.length+1) c5)]/\ik (iz q w0) (iz q z)/\Hid (iP z b3 25 #[.slice none 0 0,.slice none 0 0])/\Hid (kZ n1 57 2 oH yR (fun b=>decide (b<n1)) z (.slice A5 (I.length+1) c5) (I++[(iW.mk s ⟨tA,tc,tl⟩)]))/\n1<=z.heap.size:=⟨_,rfl,bq.jx 3 _,by rw[jJ];exact fb,iB (tV (p:=⟨q,3,none⟩) fF an _),cv.set rG (lp a6) (fun e=>by have:=(cv.own.lt q e).1;omega) 3 _,by rw[jc];exact jW (jW eM bw.below.size) ab.size⟩
    (first | refine⟨⟨(bq.cell 3).trans rfl,(bj.cell 0).trans rfl,(bj.cell 1).trans rfl⟩,?_⟩ | refine⟨fun _=>⟨(bq.cell 3).trans rfl,(bj.cell 0).trans rfl,(bj.cell 1).trans rfl⟩,?_⟩)
    obtain⟨m0,m1,m2,m3⟩:=iP.c4 bq;have ml:=jo bq;obtain⟨az,ay,eP,eO⟩:=iP.f4 bq;refine lH 8 ?_;go_simp;try refine kL ?_
    refine lH 9 ?_;go_simp;try refine kL ?_
    refine lH 10 ?_;go_simp;try refine kL ?_
    try rw[dw]
    refine iT (by kernel_rfl) ?_ _;have c_:ik B0 (iz q cw):=ij b6.aft e4;have aJ:ir 2 sM (old n1 cw) ⟨A5,c5,(I++[(iW.mk s ⟨tA,tc,tl⟩)])⟩:=by
     obtain⟨A',c',e,hR⟩:=ew.out.row (P:=sM) rG (fun b hb=>lp hb) (fun _=>rfl) (by rw[mo];have:=aI.out;simp;omega) (fun W b o y hy hj=>I7 hy hj);rw[mo]at e;injection e with e1 e2 e3
     subst e1;subst e3;exact hR
    have b7:i84<=L.length:=ef.out.le;have R9:=iB (b6.P1 (el':=(I++[(iW.mk s ⟨tA,tc,tl⟩)])) c_ b7 (by rw[mo];exact fp) aJ a6);have b2:Hid ((I++[(iW.mk s ⟨tA,tc,tl⟩)]).length+m=24):=by (show _=_;rw[mo];have:=aI.out;simp;omega)
    replace R:Hid (X=mE m ((I++[(iW.mk s ⟨tA,tc,tl⟩)]).map iW.er) (L.drop i84)):=by (show _=_;rw[s_];exact R.out)
    have fy:Hid (kZ n1 57 2 oH yR (fun b=>decide (b<n1)) cw (.slice A5 (I++[(iW.mk s ⟨tA,tc,tl⟩)]).length c5) (I++[(iW.mk s ⟨tA,tc,tl⟩)])):=by (rw[mo];exact ew)
    clear m0 m1 m2 m3 ml az ay eP eO;go_wp2_with fail;go_roundw
    case rel=>exact⟨i84,m,_,A5,c5,(I++[(iW.mk s ⟨tA,tc,tl⟩)]),dh,b2,R,R9,e4,cz,cX,fy⟩
    case measure=>(rw[je R9.out.fields.2.2.1,d1.out];omega)
   have bN:Hid (Rd B q A c L en eA ec I bl (i9+1)):=iB RZ;replace R:=iB (R.trans (iG HZ));rw[tail_drop]at R;have bx:Hid (i0<=i9+1):=wc cc;have fL:=pI HZ.out;have aq:Hid (iP bl ra 57 #[s,v2]):=iB (kq RB.out aG aK);have ar:Hid (kZ n2 9 1 mz rk (fun b=>decide (b<n2)) bl v2 (J++[x9])):=OL.out.iv lS ai (lp ai) aK;have RB:=aq;have OL:=ar;replace ae:=jW ae (lZ aK);have dJ:bp<=i9+1:=by omega
   go_wp2_with fail;go_roundw
   case rel=>exact⟨i9+1,m',v2,_,bx,dJ,a8,R,bN,e5,ae,RB,OL⟩
   case measure=>(rw[je bN.out.fields.2.2.1,d2.out];have h1:=cm;have h2:=bN.le;omega)
  obtain rfl:m'=0:=by have:=aP.out;omega
  have bQ:Hid (X=none):=R;obtain⟨a,er,rfl,he⟩:=hf;unfold oD;go_wp2_with fail;exact⟨rfl,sJ.bad bQ (ij ao cO) (jz a er he)⟩
 obtain rfl:m=0:=by have:=aI.out;omega
 have bQ:Hid (X=none):=R;obtain⟨a,er,rfl,he⟩:=hf;unfold oD;go_wp2_with fail;exact⟨rfl,sJ.bad bQ (ij ao bM) (jz a er he)⟩
end
end
end Go.Proofs.YtnigblndonocfaaGreatDoor
