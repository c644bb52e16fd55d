/- A part of the proof. -/
import Derived.Test.YtnigblndonocfaaGreatDoorP11
set_option linter.unusedVariables false
set_option linter.unusedSimpArgs false
namespace Go.Proofs.YtnigblndonocfaaGreatDoor
set_option maxRecDepth 100000
set_option maxHeartbeats 6400000
open Go.RowKit Go.BigFrame Go.Proofs.Tryz
section
variable {B:yM} {q:Nat} {A:zA} {c:Nat} {L:List Tk} {en:Int} {eA:zA} {ec:Nat} {el:List iW} {w w0 w1:yM} {i:Nat}
def oH (y:iW):zO:=[y.name,(y.tags.A,y.tags.l,y.tags.c)]
structure yR (w:yM) (y:iW):Prop where
 nm:y.name.size<=65536
 tg:ir 1 sR w y.tags
 few:y.tags.l.length<=16
theorem rG:pH yR:=⟨fun W W' y hb h=>⟨h.nm,h.tg.below lD hb,h.few⟩,fun W w y k h=>⟨h.nm,h.tg.sub sj k,h.few⟩⟩
theorem I7 {W:yM} {b o:Nat} {y:iW} (h:yR W y) (hj:∀j u,(oH y)[j]?=some u->W.cell? ⟨b,o+j,none⟩=some u):sM W b o y:=⟨hj 0 _ rfl,hj 1 _ rfl,jW h.nm iI,h.tg⟩
theorem Rk:(prog.info? 57).map (fun i=>(i.zero,i.size,i.bytes))=some (some (.agg #[.string ⟨#[]⟩,()]),2,40):=by kernel_rfl
theorem Rr:(prog.info? 65).map (fun i=>(i.zero,i.size,i.bytes))=some (some (.agg #[.string ⟨#[]⟩,(),(),(),(),(),(),()]),8,184):=by kernel_rfl
theorem JK {n:Nat} (hq:q<n) (w:yM):CU (old n w) (iz q w):=by
 refine⟨by rw[ku,iZ];exact js _,fun b o v j=>?_⟩;by_cases e:b<n
 ·exact (C9 w e j).elim
 have I:=wb e;rw[Dj (w:=old n w) (w':=iz q w) (a:=(b,o)) ((km w (show b≠q by omega)).trans (lV w I).symm)];exact j
theorem Rd.P1 {eA':zA} {ec':Nat} {el':List iW} {j n:Nat} (h:Rd B q A c L en eA ec el w0 j) (a:ik B (iz q w)) (hi:i<=L) (hb:iP w q 95 #[(A,L,c),en,(i:Nat),(eA',el',ec')]) (he:ir 2 sM (old n w) ⟨eA',ec',el'⟩) (hq:q<n):Rd (iz q w) q A c L en eA' ec' el' w i:=
 ⟨hb,iq _,hi,h.tk.below xB a.below,he.sub rH (JK hq w),h.few,h.num⟩
def sJ (q:Nat) (A:zA) (c:Nat) (L:List Tk) (en:Int) (w:yM) (k:Nat) (X:Option (List KD×List Tk)) (e:Ending) (w':yM):Prop:=ik (iz q w) (iz q w')/\match X with
 |none=>Fl e
 |some (en_,r)=>∃el:List iW,el.map iW.er=en_/\el.length<=24/\(∀u∈el,u.tags.l.length<=16)/\match mQ el k 96 [] r with
  |none=>Fl e
  |some (ns,r')=>∃(pg:Il) (i':Nat) (B':yM) (eA':zA) (ec':Nat),e=.returned (.agg #[(pg.enums.A,pg.enums.l,pg.enums.c),(pg.nodes.A,pg.nodes.l,pg.nodes.c)])/\FJ True (old w w') pg/\pg.enums.l=el/\pg.nodes.l.map nh.er=ns/\Rd B' q A c L en eA' ec' el w' i'/\L.drop i'=r'
section
variable {k:Nat} {X:Option (List KD×List Tk)} {e:Ending} {w':yM}
theorem sJ.bad (h:X=none) (a:ik (iz q w) (iz q w')) (hf:Fl e):sJ q A c L en w k X e w':=by subst h;exact⟨a,hf⟩
theorem sJ.SA {r:List Tk} (h:X=some (el.map iW.er,r)) (h1:el.length<=24) (h2:∀u∈el,u.tags.l.length<=16) (hn:mQ el k 96 [] r=none) (a:ik (iz q w) (iz q w')) (hf:Fl e):sJ q A c L en w k X e w':=by
 subst h;exact⟨a,el,rfl,h1,h2,by rw[hn];exact hf⟩
theorem sJ.ok {r r':List Tk} {ns:List D8} (h:X=some (el.map iW.er,r)) (h1:el.length<=24) (h2:∀u∈el,u.tags.l.length<=16) (hn:mQ el k 96 [] r=some (ns,r')) (a:ik (iz q w) (iz q w')) (pg:Il) {i':Nat} {B':yM} {eA':zA} {ec':Nat} (hR:FJ True (old w w') pg) (he:pg.enums.l=el) (hns:pg.nodes.l.map nh.er=ns) (hr:Rd B' q A c L en eA' ec' el w' i') (hd:L.drop i'=r'):sJ q A c L en w k X (.returned (.agg #[(pg.enums.A,pg.enums.l,pg.enums.c),(pg.nodes.A,pg.nodes.l,pg.nodes.c)])) w':=by
 subst h;exact⟨a,el,rfl,h1,h2,by rw[hn];exact⟨pg,i',B',eA',ec',rfl,hR,he,hns,hr,hd⟩⟩
end
def EF (m:Nat) (l:List KD) (ts:List Tk):Option (List KD×List Tk):=
 match m with
 |0=>none
 |m+1=>(pV ts).bind fun (s,r)=>(iF [⟨#[61]⟩] r).bind fun (_,r)=>(qH 16 [] r).bind fun (tg,r)=>(iF [⟨#[59]⟩] r).bind fun (_,r)=>mE m (l++[⟨s,tg⟩]) r
theorem Lt (m:Nat) (l:List KD) (ts:List Tk):mE m l ts=if jq ⟨#[116,121,112,101]⟩ ts then EF m l ts.tail else some (l,ts):=by cases m<;>rfl
def Fk (el:List iW) (k m:Nat) (l:List D8) (ts:List Tk):Option (List D8×List Tk):=
 match m with
 |0=>none
 |m+1=>(uO el k ts).bind fun (x,r)=>mQ el k m (l++[x]) r
theorem LK (el:List iW) (k m:Nat) (l:List D8) (ts:List Tk):mQ el k m l ts=if jq ⟨#[110,111,100,101]⟩ ts then Fk el k m l ts.tail else some (l,ts):=by cases m<;>rfl
theorem G4 {k:Nat} (h:Rd B q A c L en none 0 [] w i) (hk:20*L+40<=k):Calls prog 13 #[.pointer q] w (sJ q A c L en w k (mE 24 [] (L.drop i))):=by
 have dW:=h.aft;obtain⟨X,hX⟩:=jt (mE 24 [] (L.drop i));rw[hX];obtain⟨i0,dO⟩:=jt i;rw[dO]at hX h;clear dO;have R:=iB hX.symm;have eR:Hid (i0<=i0):=js _;clear hX;have hq:=h.blk.lt;have eV:=h.base;obtain⟨r,hr⟩:=jt w.heap.size;have bX:r≠q:=by omega
 have gu:q<r:=by omega
 obtain⟨w0,eT,aw0,B0,R0,s0⟩:=Ls h hr bX #[(),()] 25;have HB:=iB B0;have a0:ik (iz q w0) (iz q w0):=iq _;have fM:q<w0:=by omega
 have fN:B.heap.size<=w0:=by omega
 clear h B0;obtain⟨b3,dS⟩:=jt w0.heap.size;have an:b3≠q:=by omega
 have gr:r<b3:=by omega
 obtain⟨n1,dI⟩:=jt (b3+1);have a6:q<n1:=by omega
 have gl:B<=n1:=by omega
 have dc:w0<=n1:=by omega
 have cN:b3<n1:=by omega
 obtain⟨w1,dA,a1,B3,R1,a'⟩:∃v,w0.alloc (.cells #[(),()] 25)=v/\ik (iz q w0) (iz q v)/\Hid (iP v b3 25 #[(),()])/\Hid (Rd B q A c L en none 0 [] v i0)/\n1<=v:=⟨_,rfl,im zc,by rw[<- dS];exact jC ..,R0.out.after zc,by (rw[iH];omega)⟩;have fQ:=iB dI;have ck:=iB dA;clear dA s0 dI;go_in;go_wp2_with fail;try rw[hr]
 try rw[eT]
 try rw[dS]
 try rw[ck.out]
 have ao:ik (iz q w) (iz q w0):=im aw0;have ez:Hid (kZ n1 57 2 oH yR (fun b=>decide (b<n1)) w1 (.slice none 0 0) []):=vZ;go_loopw [] (fun wr=>∃(i' m:Nat) (B1:yM) (eA:zA) (ec:Nat) (I:List iW),Hid (i0<=i')/\Hid (I+m=24)/\Hid (X=mE m (I.map iW.er) (L.drop i'))/\Hid (Rd B1 q A c L en eA ec I wr i')/\ik (iz q w0) (iz q wr)/\n1<=wr.heap.size/\Hid (iP wr b3 25 #[(),()])/\Hid (kZ n1 57 2 oH yR (fun b=>decide (b<n1)) wr (.slice eA I ec) I)) (fun wr=>L.length-lO wr q 2)
 ·exact⟨i0,24,B,none,0,[],eR,iB rfl,R,R1,a1,a',B3,ez⟩
 case round=>
 clear R R1 a1 a' B3 ez ck;obtain⟨aa,m,B1,eA,ec,I,dv,aI,R,cV,eb,a',B3,OE⟩:=hrel;have e0:ik B (iz q wr):=ij R0.out.aft eb;have b6:=R0.out;obtain⟨B0,f'⟩:=jt B;rw[f']at b6 e0 dW;have bH:ir 2 sM (old n1 wr) ⟨eA,ec,I⟩:=by
  obtain⟨A',c',e,hR⟩:=OE.out.row (P:=sM) rG (fun b hb=>lp hb) (fun _=>rfl) (by have:=aI.out;omega) (fun W b o y hy hj=>I7 hy hj);injection e with e1 e2 e3
  subst e1;subst e3;exact hR
 have bO:=iB (b6.P1 e0 cV.out.le cV.out.blk bH a6);clear cV bH;obtain⟨B,hB⟩:=jt (iz q wr);rw[hB]at bO;have dX:B.heap.size=wr:=by rw[<- hB,iZ]
 have fU:=iB dX;clear hB dX;have d1:Hid (lO wr q 2=aa):=iB (je bO.out.fields.2.2.1);replace R:Hid (X=if jq ⟨#[116,121,112,101]⟩ (L.drop aa) then EF m (I.map iW.er) (L.drop aa).tail else some (I.map iW.er,L.drop aa)):=by (show _=_;rw[R.out,Lt])
 have HC:=iB (nK bO.out ⟨#[116,121,112,101]⟩);obtain⟨zk,aC⟩:=jt (jq ⟨#[116,121,112,101]⟩ (L.drop aa));rw[aC]at HC R;have HZ:=iB aC;clear aC;go_wp2_with fail;refine HC.out.mono ?_;clear HC;rintro e bn ⟨rfl,aN⟩;have b':=iB (bO.out.after aN);have bh:ik (iz q wr) (iz q bn):=im (q:=q) aN;have ea:=ij eb bh;have cd:=dv;clear aN;have a7:Hid (iP bn b3 25 #[(),()]):=iB (kq B3.out an bh);have aj:Hid (kZ n1 57 2 oH yR (fun b=>decide (b<n1)) bn (.slice eA I ec) I):=OE.out.iv rG a6 (lp a6) bh;replace B3:=a7;replace OE:=aj;clear a7 aj;replace a':=jW a' (lZ bh);cases zk
 ·skip
  have cW:Hid (X=some (I.map iW.er,L.drop aa)):=by (show _=_;rw[R.out];rfl)
  have b4:I.length<=24:=by have:=aI.out;omega
  have cl:∀u∈I,u.tags.l.length<=16:=fun u hu=>(OE.out.inn u hu).few
  have aO:=iB cl;clear cl;have bH:ir 2 sM (old n1 bn) ⟨eA,ec,I⟩:=by
   obtain⟨A',c',e,hR⟩:=OE.out.row (P:=sM) rG (fun b hb=>lp hb) (fun _=>rfl) (by omega) (fun W b o y hy hj=>I7 hy hj);injection e with e1 e2 e3
   subst e1;subst e3;exact hR
  obtain⟨c0,c1,b8,c3,f2,l0⟩:=b'.out.fields;have ak:=B3.out;obtain⟨m0,m1⟩:=Bc ak;have ml:=jo ak;obtain⟨az,ay⟩:=iP.f2 ak;obtain⟨b0,cj,br,bM,a7,DE,db⟩:∃z,bn.setCell b3 (.slice eA I ec)=z/\iP z q 95 #[(A,L,c),en,(aa:Nat),(.slice eA I ec)]/\ik (iz q w0) (iz q z)/\Hid (iP z b3 25 #[(.slice eA I ec),()])/\Hid (ir 2 sM (kK (iD (fun b=>decide (b<n1)) (.slice none 0 0)) z) ⟨eA,ec,I⟩)/\n1<=z:=⟨_,rfl,b'.out.blk.qU (p:=b3) (ls an) _,iJ (k:=ko (by omega)) (h:=ea) _ _,ak.jx 0 _,((bH.below lU (j' cN _ _ _).below).sub rH (nO _ fun b hb=>by rcases vI hb with hb | hb;exact vO hb;cases hb)),by rw[jc];exact a'⟩;have b7:=b'.out.le;go_wp2_with fail;try rw[cj]
  clear cj c0 c1 b8 c3 f2 l0 m0 m1 ml az ay ak bH OE B3 b' bO R;obtain⟨Y,hY⟩:=jt (mQ I k 96 [] (L.drop aa));have cM:=iB hY;have cb:Hid (Y=mQ I k 96 (List.map nh.er []) (L.drop aa)):=iB hY.symm;clear hY;have et:Hid (kZ n1 65 8 rZ JY (fun b=>decide (b<n1)) b0 (.slice none 0 0) []):=vZ;have bz:=cd;have ct:=iB br;clear br;go_loopw [] (fun wr=>∃(i' m:Nat) (v:Value) (J:List nh),Hid (i0<=i')/\i'<=L.length/\Hid (J+m=96)/\Hid (Y=mQ I k m (J.map nh.er) (L.drop i'))/\Hid (iP wr q 95 #[(A,L,c),en,(i':Nat),(.slice eA I ec)])/\ik (iz q w0) (iz q wr)/\n1<=wr.heap.size/\Hid (iP wr b3 25 #[(.slice eA I ec),v])/\Hid (ir 2 sM (kK (iD (fun b=>decide (b<n1)) v) wr) ⟨eA,ec,I⟩)/\Hid (kZ n1 65 8 rZ JY (fun b=>decide (b<n1)) wr v J)) (fun wr=>L.length-lO wr q 2)
  ·exact⟨aa,96,_,[],bz,b7,iB rfl,cb,ct,bM,db,a7,DE,et⟩
  case round=>
  clear cb ct bM db a7 DE et a' b7;obtain⟨af,m,v,J,dq,b7,a8,R,BQ,e9,a',B3,DE,ON⟩:=hrel;have c_:ik B0 (iz q wr):=ij b6.aft e9;have aJ:ir 2 sM (old n1 wr) ⟨eA,ec,I⟩:=DE.out.sub rH (sZ wr fun b hb=>lF (lp hb));have ca:=iB (b6.P1 (el':=I) c_ b7 BQ.out aJ a6);clear aJ c_ BQ;obtain⟨B,hB⟩:=jt (iz q wr);rw[hB]at ca;clear hB;have d1:Hid (lO wr q 2=af):=iB (je ca.out.fields.2.2.1);obtain⟨A7,c7,cG,_,_⟩:=ji ON.out.own;subst cG;replace R:Hid (Y=if jq ⟨#[110,111,100,101]⟩ (L.drop af) then Fk I k m (J.map nh.er) (L.drop af).tail else some (J.map nh.er,L.drop af)):=by (show _=_;rw[R.out,LK])
  have HC:=iB (nK ca.out ⟨#[110,111,100,101]⟩);obtain⟨zk,aC⟩:=jt (jq ⟨#[110,111,100,101]⟩ (L.drop af));rw[aC]at HC R;have HZ:=iB aC;clear aC;go_wp2_with fail;refine HC.out.mono ?_;clear HC;rintro e aA ⟨rfl,aN⟩;have cU:=iB (ca.out.after aN);have aS:ik (iz q wr) (iz q aA):=im (q:=q) aN;have cP:=ij e9 aS;have dp:=dq;clear aN;have a7:Hid (iP aA b3 25 #[(.slice eA I ec),(.slice A7 J c7)]):=iB (kq B3.out an aS);have aV:Hid (kZ n1 65 8 rZ JY (fun b=>decide (b<n1)) aA (.slice A7 J c7) J):=ON.out.iv uz a6 (lp a6) aS;have aY:Hid (ir 2 sM (kK (iD (fun b=>decide (b<n1)) (.slice A7 J c7)) aA) ⟨eA,ec,I⟩):=iB (DE.out.below lU (j_ (q:=q) (lF (lp a6)) aS).below);replace B3:=a7;replace ON:=aV;replace DE:=aY;clear a7 aV aY;replace a':=jW a' (lZ aS);cases zk
  ·skip
   have cb:Hid (mQ I k 96 [] (L.drop aa)=some (J.map nh.er,L.drop af)):=by (show _=_;rw[cM.out,R.out];rfl)
   have aJ:ir 2 sM (old n1 aA) ⟨eA,ec,I⟩:=DE.out.sub rH (sZ aA fun b hb=>lF (lp hb));obtain⟨AF,cF,cD,DF⟩:=ON.out.row (P:=Gy True) uz (fun b hb=>lp hb) (fun y=>rfl) (by have:=a8.out;omega) (fun W b o y hy hj=>Q5 hy hj);injection cD with e1 e2 e3
   subst e1;subst e3;have ak:=B3.out;obtain⟨m0,m1⟩:=Bc ak;have ml:=jo ak;obtain⟨az,ay⟩:=iP.f2 ak;have bc:iP aA r 25 #[(),()]:=lM (HB.out.after (k:=cP)) bX;obtain⟨fZ,fY⟩:=Bc bc;have fX:=jo bc;obtain⟨fJ,fI⟩:=iP.f2 bc;have eY:ik (iz q w) (iz q ((aA.setCell r (.slice eA I ec)).setCell (r,1) (.slice A7 J c7))):=iJ (k:=ko (lI hr)) (h:=iJ (k:=ko (lI hr)) (h:=ij ao cP) _ _) _ _;obtain⟨W,hW,eX,dU,dT,eW⟩:∃z,(aA.setCell r (.slice eA I ec)).setCell (r,1) (.slice A7 J c7)=z/\iP z r 25 #[(.slice eA I ec),(.slice A7 J c7)]/\ik (iz q w) (iz q z)/\(∀n,r<n->ik (old n aA) (old n z))/\iP z q 95 #[(A,L,c),en,(af:Nat),(.slice eA I ec)]:=⟨_,rfl,(bc.jx 0 _).jx 1 _,eY,fun n hn=>ij (j' hn _ _ _) (j' hn _ _ _),(cU.out.blk.qU (p:=r) (ls bX) _).qU (p:=(r,1)) (ls bX) _⟩;have eZ:=iB hW;clear hW;go_wp2_with fail;try rw[eZ.out]
   obtain⟨u0,u1⟩:=Bc eX;have cn:=aJ.below lU (dT n1 (by omega)).below;have fA:=DF.below Ax (dT n1 (by omega)).below;have fa:ik B0 (iz q W):=ij dW dU;have f_:=b6.P1 (el':=I) fa b7 eW cn a6;exact jR (v:=.agg #[(eA,I,ec),(A7,J,c7)]) (by simp[results,results13,go_sem,u0,u1]) rfl (sJ.ok cW.out b4 aO.out cb.out dU ⟨⟨eA,ec,I⟩,⟨A7,c7,J⟩⟩ ⟨cn.sub rH (iS (by omega) W),fA.sub Hs (iS (by omega) W)⟩ rfl rfl f_ rfl)
  replace R:Hid (Y=Fk I k m (J.map nh.er) (L.drop (af+1))):=by (show _=_;rw[R.out,iG rfl,tail_drop])
  have dd:=pI HZ.out;have ak:=B3.out;obtain⟨m0,m1⟩:=Bc ak;have ml:=jo ak;obtain⟨az,ay⟩:=iP.f2 ak;have HC:=iB (mF cU.out (J:Int) 96);go_wp2_with fail;refine HC.out.mono ?_;clear HC ak m0 m1 ml az ay;rintro e bm ⟨aN,hE⟩;have cT:=iB (cU.out.after aN);have aR:ik (iz q aA) (iz q bm):=im (q:=q) aN;have e8:=ij cP aR;have dn:=dp;clear aN;have a7:Hid (iP bm b3 25 #[(.slice eA I ec),(.slice A7 J c7)]):=iB (kq B3.out an aR);have aV:Hid (kZ n1 65 8 rZ JY (fun b=>decide (b<n1)) bm (.slice A7 J c7) J):=ON.out.iv uz a6 (lp a6) aR;have aY:Hid (ir 2 sM (kK (iD (fun b=>decide (b<n1)) (.slice A7 J c7)) bm) ⟨eA,ec,I⟩):=iB (DE.out.below lU (j_ (q:=q) (lF (lp a6)) aR).below);replace B3:=a7;replace ON:=aV;replace DE:=aY;clear a7 aV aY;replace a':=jW a' (lZ aR);rcases hE with⟨hlt4,rfl⟩ | ⟨hge4,hf⟩
  ·skip
   obtain⟨m,rfl⟩:∃j,m=j+1:=⟨m-1,by have:=a8.out;omega⟩;replace R:Hid (Y=(uO I k (L.drop (af+1))).bind fun (x,r)=>mQ I k m (J.map nh.er++[x]) r):=R.out;obtain⟨c0,c1,b8,c3,f2,l0⟩:=cT.out.fields;have dQ:=cT.out.few;obtain⟨aE,cf,fu,e7,bf⟩:∃z,bm.setCell (q,2) (.int .i64 ((af:Int)+1))=z/\Hid (Rd B q A c L en eA ec I z (af+1))/\ik (iz q w0) (iz q z)/\ik (iz q bm) (iz q z):=⟨_,rfl,cT.out.move (j:=af+1) dd,by rw[jJ];exact e8,by rw[jJ];exact iq _⟩;have dm:Hid (i0<=af+1):=iB (wc dn.out);go_wp2_with fail;try rw[cf]
   clear cf c0 c1 b8 c3 f2 l0;have a7:Hid (iP aE b3 25 #[(.slice eA I ec),(.slice A7 J c7)]):=iB (kq B3.out an bf);have aV:Hid (kZ n1 65 8 rZ JY (fun b=>decide (b<n1)) aE (.slice A7 J c7) J):=ON.out.iv uz a6 (lp a6) bf;have aY:Hid (ir 2 sM (kK (iD (fun b=>decide (b<n1)) (.slice A7 J c7)) aE) ⟨eA,ec,I⟩):=iB (DE.out.below lU (j_ (q:=q) (lF (lp a6)) bf).below);replace B3:=a7;replace ON:=aV;replace DE:=aY;clear a7 aV aY;replace a':=jW a' (lZ bf);have HC:Hid (∀U,ik aE U->Calls prog 36 #[.pointer q] U (pk B q A c L en eA ec I U (af+1) (uO I k (L.drop (af+1))) (VG rZ JY nh.er U))):=fun U hU=>N7 aO.out (by omega) (fu.out.after hU) (by omega)
   generalize bI:uO I k (L.drop (af+1))=Z at HC R;have cY:=B3.out;have HK:Hid (∀U,ik (iz q aE) (iz q U)->U.cell? (b3,1)=(A7,J,c7)):=fun U hU=>((kq cY an hU).cell 1).trans rfl
   have l3:=jo cY;go_wp2_with fail;refine jm (fun U:yM=>U.cell? (b3,1)=(A7,J,c7)) [5,6,7] (by kernel_rfl) ?_;have a_:(fun U:yM=>U.cell? (b3,1)=(A7,J,c7)) aE.drew:=HK.out _ zc;refine wT 0 [1,5,6,7] (.pointer (b3,1)) a_ ?_;try simp only[Act.put,oF,oB,oq]
   refine wT 1 [5,6,7] ((.slice A7 J c7)) a_ ?_;try simp only[Act.put,oF,oB,oq]
   refine wT 2 [3,4,5,6,7] (.pointer q) a_ ?_;try simp only[Act.put,oF,oB,oq]
   clear a_;refine lH 3 ?_;go_simp;go_at_call 36;refine (HC.out _ zc).mono ?_;clear HC;rintro e w9 ⟨aZ,hY⟩;have aM:ik (iz q aE) (iz q w9):=ij (im zc) aZ;clear aZ;cases Z with
   |none=>
    obtain⟨a,er,rfl,he⟩:=hY;unfold oD;exact⟨rfl,sJ.SA cW.out b4 aO.out (cM.out.trans R.out) (ij ao (ij e7 aM)) (jz a er he)⟩
   |some zz=>
   obtain⟨x9,r9⟩:=zz;obtain⟨v9,i9,rfl,cE,R9,cJ,bY⟩:=hY;subst cJ;obtain⟨⟨s1,⟨A1,c1,l1⟩,⟨A2,c2,l2⟩,⟨A3,c3,ag⟩,⟨A4,c4,l4⟩,⟨A5,c5,l5⟩,⟨A6,c6,l6⟩,⟨A8,c8,l8⟩⟩,cB,rfl,D9⟩:=cE;have dR:Value.agg (rZ (nh.mk s1 ⟨A1,c1,l1⟩ ⟨A2,c2,l2⟩ ⟨A3,c3,ag⟩ ⟨A4,c4,l4⟩ ⟨A5,c5,l5⟩ ⟨A6,c6,l6⟩ ⟨A8,c8,l8⟩)).toArray=.agg #[s1,(A1,l1,c1),(A2,l2,c2),(A3,ag,c3),(A4,l4,c4),(A5,l5,c5),(A6,l6,c6),(A8,l8,c8)]:=rfl;rw[dR];clear dR;have cB:=iB cB;refine kS (HK.out _ aM) ?_;have fx:=ON.out.iv uz a6 (lp a6) aM;have fC:=DE.out.below lU (j_ (q:=q) (lF (lp a6)) aM).below;have fH:=kq cY an aM;have bZ:∀g,((.slice A7 J c7):Value).ownBlock=some g->g<aE.heap.size:=fun g hg=>(ON.out.own.lt g hg).2
   have eN:n1<=w9:=by have h1:=lZ aM;omega
   obtain⟨eJ,ba,ft,fl,bo⟩:∃z,w9.alloc (.cells #[s1,(A1,l1,c1),(A2,l2,c2),(A3,ag,c3),(A4,l4,c4),(A5,l5,c5),(A6,l6,c6),(A8,l8,c8)] 65)=z/\iP z q 95 #[(A,L,c),en,(i9:Nat),(.slice eA I ec)]/\ik (iz q w0) (iz q z)/\ik w9 z:=⟨_,rfl,mZ (w:=w9) R9.blk,ij (ij e7 aM) (im zc),zc⟩;have aW:=fx.after uz bo;have eD:=fC.below lU (oS bo).below;have eF:=mZ (w:=w9) (k:=bo) fH;have fE:JY (old aE eJ) (nh.mk s1 ⟨A1,c1,l1⟩ ⟨A2,c2,l2⟩ ⟨A3,c3,ag⟩ ⟨A4,c4,l4⟩ ⟨A5,c5,l5⟩ ⟨A6,c6,l6⟩ ⟨A8,c8,l8⟩):=uz.below _ _ _ (jK bo).below D9;have gp:J.length<=96:=by have:=a8.out;omega
   refine lH 4 ?_;go_simp;try rw[ba]
   refine kS (HK.out _ (ij aM (im bo))) ?_;refine lH 5 ?_;obtain⟨bA,ax,aw,av,au⟩:=info_parts Rr;rw[<- ba];refine jZ (w9.alloc (.cells #[s1,(A1,l1,c1),(A2,l2,c2),(A3,ag,c3),(A4,l4,c4),(A5,l5,c5),(A6,l6,c6),(A8,l8,c8)] 65)) (.tmp 78) (.tmp 81) 23 rfl n1 65 bA _ 8 _ underlying23 ax aw av au rfl (by decide) (.slice A7 J c7) J.length (J.flatMap rZ) rfl (by rw[ba];exact aW.own) _ _ 1 1 [s1,(A1,l1,c1),(A2,l2,c2),(A3,ag,c3),(A4,l4,c4),(A5,l5,c5),(A6,l6,c6),(A8,l8,c8)] rfl (ki (w:=w9) rfl #[s1,(A1,l1,c1),(A2,l2,c2),(A3,ag,c3),(A4,l4,c4),(A5,l5,c5),(A6,l6,c6),(A8,l8,c8)] 65 _ rfl 1 8 rfl) (by intro u hu;simp only[la]at hu;rcases hu with rfl | rfl | rfl | rfl | rfl | rfl | rfl | rfl<;>rfl) (by unfold maxLen;omega) (by omega) (by rw[iH];omega) ?_;rw[ba];intro v5 bS ah ab b5;clear ax aw av au;obtain⟨A9,c9,rfl,_,_⟩:=ji ah;try refine kL ?_
   have cu:kZ n1 65 8 rZ JY (fun b=>decide (b<n1)) bS (.slice A9 (J+1) c9) (J++[(nh.mk s1 ⟨A1,c1,l1⟩ ⟨A2,c2,l2⟩ ⟨A3,c3,ag⟩ ⟨A4,c4,l4⟩ ⟨A5,c5,l5⟩ ⟨A6,c6,l6⟩ ⟨A8,c8,l8⟩)]):=aW.add (m:=aE.heap.size) uz fE (fun b hb=>by have hb:=vO hb;omega) (fun b hb=>bZ b hb) ah ab b5;have dY:∀b,((.slice A7 J c7):Value).ownBlock=some b->iD (fun b=>decide (b<n1)) (.slice A7 J c7) b=true:=fun b hb=>pr hb
   have eC:ir 2 sM (kK (iD (fun b=>decide (b<n1)) (.slice A9 (J+1) c9)) bS) ⟨eA,ec,I⟩:=(eD.below lU (C4 ab dY b5).below).sub rH (rp (fun b hb=>by rcases vI hb with hb | hb;exact lF (lF hb);exact pr hb) bS);have fs:=oY ft ab (fun e=>by have:=(aW.own.lt q e.symm).1;omega);have bk:=oY eF ab (fun e=>by have:=(aW.own.lt b3 e.symm).1;omega);have fk:=kF fl aW.own ab a6 dc;have bW:((.slice A9 (J+1) c9):Value).ownBlock≠some b3:=fun e=>by have:=(cu.own.lt b3 e).1;omega
   obtain⟨eI,dy,ej,fj,cX,fB,ep,cz⟩:∃z,bS.setCell ⟨b3,1,none⟩ (.slice A9 (J.length+1) c9)=z/\Hid (iP z q 95 #[.slice A L.length c,en,.int .i64 (i9:Nat),(.slice eA I.length ec)])/\ik (iz q w0) (iz q z)/\Hid (iP z b3 25 #[(.slice eA I.length ec),(.slice A9 (J.length+1) c9)])/\Hid (ir 2 sM (kK (iD (fun b=>decide (b<n1)) (.slice A9 (J.length+1) c9)) z) ⟨eA,ec,I⟩)/\Hid (kZ n1 65 8 rZ JY (fun b=>decide (b<n1)) z (.slice A9 (J.length+1) c9) (J++[(nh.mk s1 ⟨A1,c1,l1⟩ ⟨A2,c2,l2⟩ ⟨A3,c3,ag⟩ ⟨A4,c4,l4⟩ ⟨A5,c5,l5⟩ ⟨A6,c6,l6⟩ ⟨A8,c8,l8⟩)]))/\n1<=z.heap.size:=⟨_,rfl,iB (tV (p:=⟨b3,1,none⟩) fs (ls an) _),iJ (k:=ko (by omega)) (h:=fk) _ _,iB (Hg bk 1 (.slice A9 (J.length+1) c9)),eC.below lU (kJ (lF (lp cN)) _ _ _).below,cu.set uz (lp cN) bW 1 _,by rw[jc];exact jW (jW eN bo.below.size) ab.size⟩;obtain⟨m0,m1⟩:=Bc bk;have ml:=jo bk;obtain⟨az,ay⟩:=iP.f2 bk;refine lH 6 ?_;go_simp;try refine kL ?_
   refine lH 7 ?_;go_simp;try refine kL ?_
   try rw[dy]
   refine iT (by kernel_rfl) ?_ _;have dV:i9<=L:=R9.le;have b2:Hid ((J++[(nh.mk s1 ⟨A1,c1,l1⟩ ⟨A2,c2,l2⟩ ⟨A3,c3,ag⟩ ⟨A4,c4,l4⟩ ⟨A5,c5,l5⟩ ⟨A6,c6,l6⟩ ⟨A8,c8,l8⟩)]).length+m=96):=by (show _=_;rw[mo];have:=a8.out;simp;omega)
   replace R:Hid (Y=mQ I k m ((J++[(nh.mk s1 ⟨A1,c1,l1⟩ ⟨A2,c2,l2⟩ ⟨A3,c3,ag⟩ ⟨A4,c4,l4⟩ ⟨A5,c5,l5⟩ ⟨A6,c6,l6⟩ ⟨A8,c8,l8⟩)]).map nh.er) (L.drop i9)):=by (show _=_;rw[s_];show Y=mQ I k m (J.map nh.er++[nh.er (nh.mk s1 ⟨A1,c1,l1⟩ ⟨A2,c2,l2⟩ ⟨A3,c3,ag⟩ ⟨A4,c4,l4⟩ ⟨A5,c5,l5⟩ ⟨A6,c6,l6⟩ ⟨A8,c8,l8⟩)]) _;rw[cB.out];exact R.out)
   have fW:Hid (kZ n1 65 8 rZ JY (fun b=>decide (b<n1)) eI (.slice A9 (J++[(nh.mk s1 ⟨A1,c1,l1⟩ ⟨A2,c2,l2⟩ ⟨A3,c3,ag⟩ ⟨A4,c4,l4⟩ ⟨A5,c5,l5⟩ ⟨A6,c6,l6⟩ ⟨A8,c8,l8⟩)]).length c9) (J++[(nh.mk s1 ⟨A1,c1,l1⟩ ⟨A2,c2,l2⟩ ⟨A3,c3,ag⟩ ⟨A4,c4,l4⟩ ⟨A5,c5,l5⟩ ⟨A6,c6,l6⟩ ⟨A8,c8,l8⟩)])):=by (rw[mo];exact ep)
   have eQ:Hid (i0<=i9):=iB (jW dm.out bY);clear m0 m1 ml az ay;go_wp2_with fail;go_roundw
   case rel=>exact⟨i9,m,(.slice A9 (J+1) c9),(J++[(nh.mk s1 ⟨A1,c1,l1⟩ ⟨A2,c2,l2⟩ ⟨A3,c3,ag⟩ ⟨A4,c4,l4⟩ ⟨A5,c5,l5⟩ ⟨A6,c6,l6⟩ ⟨A8,c8,l8⟩)]),eQ,dV,b2,R,ej,fj,cz,cX,fB,ep⟩
   case measure=>(rw[je ((ej.out.cell 2).trans rfl),d1.out];omega)
  obtain rfl:m=0:=by have:=a8.out;omega
  have bQ:Hid (Y=none):=R.out;obtain⟨a,er,rfl,he⟩:=hf;unfold oD;go_wp2_with fail;exact⟨rfl,sJ.SA cW.out b4 aO.out (cM.out.trans bQ.out) (ij ao e8) (jz a er he)⟩
 replace R:Hid (X=EF m (I.map iW.er) (L.drop (aa+1))):=by (show _=_;rw[R.out,iG rfl,tail_drop])
 have de:=pI HZ.out;obtain⟨c0,c1,b8,c3,f2,l0⟩:=b'.out.fields;have HC:=iB (mF b'.out (I:Int) 24);go_wp2_with fail;refine HC.out.mono ?_;clear HC c0 c1 b8 c3 f2 l0;rintro e b0 ⟨aN,hE⟩;have br:=iB (b'.out.after aN);have bg:ik (iz q bn) (iz q b0):=im (q:=q) aN;have bM:=ij ea bg;have bz:=cd;clear aN;have a7:Hid (iP b0 b3 25 #[(),()]):=iB (kq B3.out an bg);have aj:Hid (kZ n1 57 2 oH yR (fun b=>decide (b<n1)) b0 (.slice eA I ec) I):=OE.out.iv rG a6 (lp a6) bg;replace B3:=a7;replace OE:=aj;clear a7 aj;replace a':=jW a' (lZ bg);rcases hE with⟨hlt4,rfl⟩ | ⟨hge4,hf⟩
 ·skip
  obtain⟨m,rfl⟩:∃j,m=j+1:=⟨m-1,by have:=aI.out;omega⟩;replace R:Hid (X=(pV (L.drop (aa+1))).bind fun (s,r)=>(iF [⟨#[61]⟩] r).bind fun (_,r)=>(qH 16 [] r).bind fun (tg,r)=>(iF [⟨#[59]⟩] r).bind fun (_,r)=>mE m (I.map iW.er++[⟨s,tg⟩]) r):=R.out;obtain⟨c0,c1,b8,c3,f2,l0⟩:=br.out.fields;have dQ:=br.out.few;obtain⟨d_,ch,fw,fo,bL⟩:∃z,b0.setCell (q,2) (.int .i64 ((aa:Int)+1))=z/\Hid (Rd B q A c L en eA ec I z (aa+1))/\ik (iz q w0) (iz q z)/\ik (iz q b0) (iz q z):=⟨_,rfl,br.out.move (j:=aa+1) de,by rw[jJ];exact bM,by rw[jJ];exact iq _⟩;have du:Hid (i0<=aa+1):=iB (wc bz.out);go_wp2_with fail;try rw[ch]
  clear ch c0 c1 b8 c3 f2 l0;have a7:Hid (iP d_ b3 25 #[(),()]):=iB (kq B3.out an bL);have aj:Hid (kZ n1 57 2 oH yR (fun b=>decide (b<n1)) d_ (.slice eA I ec) I):=OE.out.iv rG a6 (lp a6) bL;replace B3:=a7;replace OE:=aj;clear a7 aj;replace a':=jW a' (lZ bL);have HC:=iB (qb fw.out);replace R:Hid (X=Option.bind (pV (L.drop (aa+1))) _):=R.out;generalize fT:pV (L.drop (aa+1))=Y at HC R;go_wp2_with fail;refine HC.out.mono ?_;clear HC;rintro e aB ⟨aZ,hY⟩;have bK:=aZ;have aZ:=ij fo aZ;cases Y with
  |none=>
   obtain⟨a,er,rfl,he⟩:=hY;unfold oD;go_wp2_with fail;exact⟨rfl,sJ.bad R.out (ij ao aZ) (jz a er he)⟩
  |some y=>
  obtain⟨eG,gi⟩:=y;obtain⟨gf,bp,rfl,dD,RZ,hr,hi⟩:=hY;subst hr;have eo:=iB RZ;have e':=aZ;have dt:Hid (i0<=bp):=jW du.out hi;have dN:=hi;clear RZ aZ hi;obtain⟨rfl,bE⟩:=dD;have a7:Hid (iP aB b3 25 #[(),()]):=iB (kq B3.out an bK);have aj:Hid (kZ n1 57 2 oH yR (fun b=>decide (b<n1)) aB (.slice eA I ec) I):=OE.out.iv rG a6 (lp a6) bK;replace B3:=a7;replace OE:=aj;clear a7 aj;replace a':=jW a' (lZ bK);obtain⟨s,hs⟩:=jt eG;rw[hs]at R bE⊢;clear hs;have hS:=iB bE;clear bE;obtain⟨ra,b1⟩:=jt aB.heap.size;have fK:n1<=ra:=by omega
  have aG:ra≠q:=by omega
  obtain⟨ga,cg,fv,e_,cp,ee,d'⟩:∃z,aB.alloc (.cells #[s,()] 57)=z/\Hid (Rd B q A c L en eA ec I z bp)/\ik (iz q w0) (iz q z)/\ik (iz q aB) (iz q z)/\Hid (iP z ra 57 #[s,()])/\Hid (ra+1=z):=⟨_,rfl,eo.out.after zc,ij e' (im zc),im zc,by rw[<- b1];exact jC ..,by (show _=_;rw[iH,b1])⟩;have ds:=dt;have cC:=iB cg;clear cg;go_wp2_with fail;try rw[b1]
  try rw[cC.out]
  try rw[d'.out]
  have ey:=OE;have cy:n1<=aB:=a';have cq:=iB e';have ao:=ij ao cq.out;have fV:B<=ra:=by have:=eo.out.base;omega
  obtain⟨w0,bD⟩:=jt aB;rw[bD]at cp b1 ao;have e_:=cp;have dG:w0<=ra:=lI b1;have fO:=iB b1;have dz:=iB bD;clear b1 bD;have HC:=iB (jH fv.out [⟨#[61]⟩] (by decide));replace R:Hid (X=Option.bind (iF [⟨#[61]⟩] (L.drop bp)) _):=R.out;generalize fS:iF [⟨#[61]⟩] (L.drop bp)=Y at HC R;go_wp2_with fail;refine HC.out.mono ?_;clear HC;rintro e bu ⟨aZ,hY⟩;have dZ:=aZ;have aZ:=ij e_ aZ;cases Y with
  |none=>
   obtain⟨a,er,rfl,he⟩:=hY;unfold oD;go_wp2_with fail;exact⟨rfl,sJ.bad R.out (ij ao aZ) (jz a er he)⟩
  |some y=>
  obtain⟨g',gh⟩:=y;obtain⟨gd,cA,rfl,dC,RZ,hr,hi⟩:=hY;subst hr;have ek:=iB RZ;have fm:=aZ;have dr:Hid (i0<=cA):=jW ds.out hi;have dM:=hi;clear RZ aZ hi;subst dC;have cQ:iP bu ra 57 #[s,()]:=kq ee.out aG dZ;clear ee;obtain⟨n2,dH⟩:=jt (ra+1);have eK:ra<n2:=by omega
  have ai:q<n2:=by omega
  have gj:w0<=n2:=by omega
  have gk:B<=n2:=by omega
  have da:n2<=bu:=by have:=cQ.lt;omega
  clear d';have fP:=iB dH;clear dH;obtain⟨v0,cH⟩:=jt (Value.slice none 0 0);obtain⟨bs,bV⟩:∃y:List yB,y=[]:=⟨_,rfl⟩;have RB:Hid (iP bu ra 57 #[s,v0]):=by rw[<- cH];exact cQ
  have OT:Hid (kZ n2 9 1 mz rk (fun b=>decide (b<n2)) bu v0 bs):=by (show kZ n2 9 1 mz rk (fun b=>decide (b<n2)) bu v0 bs;rw[<- cH,bV];exact vZ)
  replace R:Hid (X=(qH 16 bs (L.drop cA)).bind fun (tg,r)=>(iF [⟨#[59]⟩] r).bind fun (_,r)=>mE m (I.map iW.er++[⟨s,tg⟩]) r):=by (show _=_;rw[bV];exact R.out)
  have bG:Hid (bs.length+16=16):=by (show _=_;rw[bV];rfl)
  clear cQ cH bV;go_wp2_with fail;go_loopw [] (fun wr=>∃(i' m':Nat) (v:Value) (J:List yB),Hid (i0<=i')/\bp<=i'/\Hid (J+m'=16)/\Hid (X=(qH m' J (L.drop i')).bind fun (tg,r)=>(iF [⟨#[59]⟩] r).bind fun (_,r)=>mE m (I.map iW.er++[⟨s,tg⟩]) r)/\Hid (Rd B q A c L en eA ec I wr i')/\ik (iz q w0) (iz q wr)/\n2<=wr.heap.size/\Hid (iP wr ra 57 #[s,v])/\Hid (kZ n2 9 1 mz rk (fun b=>decide (b<n2)) wr v J)) (fun wr=>L.length-lO wr q 2)
  ·exact⟨cA,16,v0,bs,dr,dM,bG,R,ek,fm,da,RB,OT⟩
  case round=>
  clear R RB OT bG da ek;obtain⟨al,m',v,J,dk,dL,aP,R,cS,fi,ae,RB,OT⟩:=hrel;have d2:Hid (lO wr q 2=al):=iB (je cS.out.fields.2.2.1);have OL:=OT;clear OT;have HC:=iB (qv cS.out 1);obtain⟨zk,aC⟩:=jt (ju 1 (L.drop al));rw[aC]at HC;have fz:=iB aC;clear aC;go_wp2_with fail;refine HC.out.mono ?_;clear HC;rintro e aQ ⟨rfl,aN⟩;have cR:=iB (cS.out.after aN);have be:ik (iz q wr) (iz q aQ):=im (q:=q) aN;have e6:=ij fi be;have dj:=dk;clear aN;have aq:Hid (iP aQ ra 57 #[s,v]):=iB (kq RB.out aG be);have ar:Hid (kZ n2 9 1 mz rk (fun b=>decide (b<n2)) aQ v J):=OL.out.iv lS ai (lp ai) be;clear RB OL;have RB:=aq;have OL:=ar;clear aq ar;replace ae:=jW ae (lZ be);cases zk
  ·skip
   have cL:=BW fz.out;replace R:Hid (X=(pV (L.drop al)).bind fun _=>(none:Option (List KD×List Tk))):=by (show _=_;rw[R.out];cases m' with | zero=>(rw[cL];rfl) | succ m'=>(rw[qH,cL];rfl))
   have HC:Hid (∀U,ik aQ U->Calls prog 32 #[.pointer q] U (pk B q A c L en eA ec I U al (pV (L.drop al)) (fun s w' v=>v=.string s/\s.size<=65536))):=fun U hU=>qb (cR.out.after hU)
   generalize bI:pV (L.drop al)=Y at HC R;have b_:=RB.out;have HK:Hid (∀U,ik (iz q aQ) (iz q U)->U.cell? (ra,1)=some v):=fun U hU=>((kq b_ aG hU).cell 1).trans rfl
   have df:=jo b_;go_wp2_with fail;refine jm (fun U:yM=>U.cell? (ra,1)=some v) [5,6,7] (by kernel_rfl) ?_;have a_:(fun U:yM=>U.cell? (ra,1)=some v) aQ.drew:=HK.out _ zc;refine wT 0 [1,5,6,7] (.pointer (ra,1)) a_ ?_;try simp only[Act.put,oF,oB,oq]
   refine wT 1 [5,6,7] (v) a_ ?_;try simp only[Act.put,oF,oB,oq]
   refine wT 2 [3,4,5,6,7] (.pointer q) a_ ?_;try simp only[Act.put,oF,oB,oq]
   clear a_;refine lH 3 ?_;go_simp;go_at_call 32;refine (HC.out _ zc).mono ?_;clear HC;rintro e w9 ⟨aZ,hY⟩;have aM:ik (iz q aQ) (iz q w9):=ij (im zc) aZ;clear aZ;cases Y with
   |none=>
    obtain⟨a,er,rfl,he⟩:=hY;unfold oD;exact⟨rfl,sJ.bad R.out (ij ao (ij e6 aM)) (jz a er he)⟩
   |some y=>
   exact ((show False from by rw[cL]at bI;cases bI)).elim
  obtain⟨A7,c7,cG,_,_⟩:=ji OL.out.own;subst cG;have b9:=RB.out;obtain⟨m0,m1⟩:=Bc b9;have ml:=jo b9;obtain⟨az,ay⟩:=iP.f2 b9;have HC:=iB (mF cR.out (J:Int) 16);go_wp2_with fail;refine HC.out.mono ?_;clear HC m0 m1 ml az ay b9;rintro e aD ⟨aN,hE⟩;have fr:=iB (cR.out.after aN);have bd:ik (iz q aQ) (iz q aD):=im (q:=q) aN;have cO:=ij e6 bd;have di:=dj;clear aN;have aq:Hid (iP aD ra 57 #[s,(.slice A7 J c7)]):=iB (kq RB.out aG bd);have ar:Hid (kZ n2 9 1 mz rk (fun b=>decide (b<n2)) aD (.slice A7 J c7) J):=OL.out.iv lS ai (lp ai) bd;clear RB OL;have RB:=aq;have OL:=ar;clear aq ar;replace ae:=jW ae (lZ bd);rcases hE with⟨hlt4,rfl⟩ | ⟨hge4,hf⟩
  ·skip
   obtain⟨m',rfl⟩:∃j,m'=j+1:=⟨m'-1,by have:=aP.out;omega⟩;replace R:Hid (X=(pV (L.drop al)).bind fun (u,r)=>(if jq ⟨#[124]⟩ r then qH m' (J++[u]) r.tail else some (J++[u],r)).bind fun (tg,r)=>(iF [⟨#[59]⟩] r).bind fun (_,r)=>mE m (I.map iW.er++[⟨s,tg⟩]) r):=by (show _=_;rw[R.out,qH];cases pV (L.drop al)<;>rfl)
   obtain⟨v,hv⟩:=jt (Value.slice A7 J.length c7);rw[hv]at RB OL;have HC:Hid (∀U,ik aD U->Calls prog 32 #[.pointer q] U (pk B q A c L en eA ec I U al (pV (L.drop al)) (fun s w' v=>v=.string s/\s.size<=65536))):=fun U hU=>qb (fr.out.after hU)
   generalize bI:pV (L.drop al)=Y at HC R;have b_:=RB.out;have HK:Hid (∀U,ik (iz q aD) (iz q U)->U.cell? (ra,1)=some v):=fun U hU=>((kq b_ aG hU).cell 1).trans rfl
   have df:=jo b_;go_wp2_with fail;refine jm (fun U:yM=>U.cell? (ra,1)=some v) [5,6,7] (by kernel_rfl) ?_;have a_:(fun U:yM=>U.cell? (ra,1)=some v) aD.drew:=HK.out _ zc;refine wT 0 [1,5,6,7] (.pointer (ra,1)) a_ ?_;try simp only[Act.put,oF,oB,oq]
   refine wT 1 [5,6,7] (v) a_ ?_;try simp only[Act.put,oF,oB,oq]
   refine wT 2 [3,4,5,6,7] (.pointer q) a_ ?_;try simp only[Act.put,oF,oB,oq]
   clear a_;refine lH 3 ?_;go_simp;go_at_call 32;refine (HC.out _ zc).mono ?_;clear HC;rintro e w9 ⟨aZ,hY⟩;have aM:ik (iz q aD) (iz q w9):=ij (im zc) aZ;clear aZ;cases Y with
   |none=>
    obtain⟨a,er,rfl,he⟩:=hY;unfold oD;exact⟨rfl,sJ.bad R.out (ij ao (ij cO aM)) (jz a er he)⟩
   |some y=>
   obtain⟨x9,r9⟩:=y;obtain⟨v9,i9,rfl,cE,R9,cJ,bY⟩:=hY;subst cJ;obtain⟨rfl,cI⟩:=cE;refine kS (HK.out _ aM) ?_;have bZ:∀g,v.ownBlock=some g->n2<=g/\g<aD.heap.size:=fun g hg=>OL.out.own.lt g hg
   have ev:=OL.out.iv lS ai (lp ai) aM;have b9:iP w9 ra 57 #[s,v]:=kq b_ aG aM;have eU:J.length<=100000:=by have:=aP.out;omega
   have bU:n2<=w9:=by have h1:=lZ aM;have h2:=ae;omega
   obtain⟨cZ,aH,ei,fh,bT⟩:∃v,w9.alloc (.cells #[x9] 9)=v/\Rd B q A c L en eA ec I v i9/\ik (iz q w0) (iz q v)/\ik w9 v:=⟨_,rfl,R9.after zc,ij (ij cO aM) (im zc),zc⟩;have aL:=ev.after lS bT;have eE:rk (old aD.drew cZ) (x9):=cI;have cr:iP cZ ra 57 #[s,v]:=mZ (w:=w9) (k:=bT) b9;have eS:=iy aH;refine lH 4 ?_;go_simp;try rw[aH]
   refine kS (HK.out _ (ij aM (im bT))) ?_;refine lH 5 ?_;obtain⟨bA,ax,aw,av,au⟩:=info_parts J7;rw[<- aH];refine jZ (w9.alloc (.cells #[x9] 9)) (.tmp 36) (.tmp 39) 55 rfl n2 9 bA _ 1 _ underlying55 ax aw av au rfl (by decide) v J (J.flatMap mz) rfl (by rw[aH];exact aL.own) _ _ 1 1 [x9] rfl (ki (w:=w9) rfl #[x9] 9 _ rfl 1 1 rfl) (by intro u hu;simp only[la]at hu;subst hu;rfl) (by unfold maxLen;omega) (by omega) (by rw[iH];omega) ?_;rw[aH];intro v5 cx ah ab b5;clear ax aw av au;obtain⟨A5,c5,rfl,_,_⟩:=ji ah;have bP:kZ n2 9 1 mz rk (fun b=>decide (b<n2)) cx (.slice A5 (J+1) c5) (J++[x9]):=aL.add lS eE (fun b hb=>by (have hb:=vO hb;have h2:=ae;show b<aD.heap.size;omega)) (fun b hb=>(bZ b hb).2) ah ab b5;have eh:=ei.grown aL.own ab ai (by omega);have fg:=kF fh aL.own ab ai (by omega);have aU:iP cx ra 57 #[s,v]:=oY cr ab (fun e=>by have:=(aL.own.lt ra e.symm).1;omega);have bW:((.slice A5 (J+1) c5):Value).ownBlock≠some ra:=fun e=>by have:=(bP.own.lt ra e).1;omega
   obtain⟨eH,v2,bB,gq,eg,ff,ed,eu⟩:∃z v2,cx.setCell (ra,1) (.slice A5 (J+1) c5)=z/\v2.ownBlock≠some ra/\Hid (Rd B q A c L en eA ec I z i9)/\ik (iz q w0) (iz q z)/\Hid (iP z ra 57 #[s,v2])/\Hid (kZ n2 9 1 mz rk (fun b=>decide (b<n2)) z v2 (J++[x9])):=⟨_,(.slice A5 (J+1) c5),rfl,bW,eh.set aG (by omega) 1 _,iJ (k:=⟨by rw[iZ];omega⟩) (h:=fg) _ _,aU.jx 1 _,bP.set lS (lp eK) bW 1 _⟩;have cc:Hid (i0<=i9):=iB (jW di.out bY);have eL:n2<=eH:=by rw[<- bB,jc];exact jW (jW bU bT.below.size) ab.size
   have gw:al<=i9:=bY;try refine kL ?_
   obtain⟨m0,m1⟩:=Bc aU;have ml:=jo aU;obtain⟨az,ay⟩:=iP.f2 aU;refine lH 6 ?_;go_simp;try refine kL ?_
   refine lH 7 ?_;go_simp;try refine kL ?_
   try rw[bB]
   refine iT (by kernel_rfl) ?_ _;clear m0 az m1 ay ml bB aU eh bP ah ab b5 cr eE aL ei aH eS ev b9 R9 HK b_ RB OL bZ aM df eU bU;have RB:=ed;have OL:=eu;clear ae;have ae:=eL;clear ed eu;have cm:al<i9:=by have h1:=mm bI;rw[nY,nY]at h1;have:=eg.out.le;omega
   have a8:Hid ((J++[x9]).length+m'=16):=by (show _=_;rw[mo];have:=aP.out;simp;omega)
   have eB:Hid (X=if jq ⟨#[124]⟩ (L.drop i9) then (qH m' (J++[x9]) (L.drop i9).tail).bind (fun (tg,r)=>(iF [⟨#[59]⟩] r).bind fun (_,r)=>mE m (I.map iW.er++[⟨s,tg⟩]) r) else (iF [⟨#[59]⟩] (L.drop i9)).bind fun (_,r)=>mE m (I.map iW.er++[⟨s,J++[x9]⟩]) r):=by
    have h9:X=(if jq ⟨#[124]⟩ (L.drop i9) then qH m' (J++[x9]) (L.drop i9).tail else some (J++[x9],L.drop i9)).bind fun (tg,r)=>(iF [⟨#[59]⟩] r).bind fun (_,r)=>mE m (I.map iW.er++[⟨s,tg⟩]) r:=R.out
    show _=_
    rw[h9];by_cases hc:jq ⟨#[124]⟩ (L.drop i9)=true
    ·rw[iG hc,iG hc]
    rw[iV hc,iV hc];rfl
   replace R:=eB;clear eB;have HC:=iB (tB eg.out ⟨#[124]⟩);go_wp2_with fail;refine HC.out.mono ?_;clear HC;rintro e bl ⟨z,hz,rfl,RZ,aZ⟩;have e5:=ij ff aZ;have HZ:=iB hz;clear hz;have aK:=aZ;cases z
   ·skip
    have bN:Hid (Rd B q A c L en eA ec I bl i9):=iB RZ;replace R:=iB (R.out.trans (iV (Qa HZ)));have bx:=cc;clear RZ HZ aZ;have aq:Hid (iP bl ra 57 #[s,v2]):=iB (kq RB.out aG aK);have ar:Hid (kZ n2 9 1 mz rk (fun b=>decide (b<n2)) bl v2 (J++[x9])):=OL.out.iv lS ai (lp ai) aK;clear RB OL;have RB:=aq;have OL:=ar;clear aq ar;replace ae:=jW ae (lZ aK);have HC:=iB (jH bN.out [⟨#[59]⟩] (by decide));replace R:Hid (X=Option.bind (iF [⟨#[59]⟩] (L.drop i9)) _):=R.out;generalize fR:iF [⟨#[59]⟩] (L.drop i9)=Y at HC R;go_wp2_with fail;refine HC.out.mono ?_;clear HC;rintro e ad ⟨aZ,hY⟩;have bJ:=aZ;have aZ:=ij e5 aZ;cases Y with
    |none=>
     obtain⟨a,er,rfl,he⟩:=hY;unfold oD;go_wp2_with fail;exact⟨rfl,sJ.bad R.out (ij ao aZ) (jz a er he)⟩
    |some y=>
    obtain⟨g_,gg⟩:=y;obtain⟨gb,i84,rfl,dB,RZ,hr,hi⟩:=hY;subst hr;have ef:=iB RZ;have fe:=aZ;have dh:Hid (i0<=i84):=jW bx.out hi;have dK:=hi;clear RZ aZ hi;subst dB;have aq:Hid (iP ad ra 57 #[s,v2]):=iB (kq RB.out aG bJ);have ar:Hid (kZ n2 9 1 mz rk (fun b=>decide (b<n2)) ad v2 (J++[x9])):=OL.out.iv lS ai (lp ai) bJ;clear RB OL;have RB:=aq;have OL:=ar;clear aq ar;replace ae:=jW ae (lZ bJ);obtain⟨tA,tc,cD,DF⟩:=OL.out.row (P:=sR) lS (fun b hb=>lp hb) (fun y=>rfl) (by have:=a8.out;omega) (fun W b o y hy hj=>⟨hj 0 _ rfl,jW hy (by decide)⟩);subst cD;obtain⟨tl,dE⟩:=jt (J++[x9]);rw[dE]at RB DF R a8;have DT:=iB DF;replace R:Hid (X=mE m (I.map iW.er++[⟨s,tl⟩]) (L.drop i84)):=R.out;have dF:tl.length<=16:=by have:=a8.out;omega
    clear OL DF dE a8;have bC:=dz.out;have bF:=dG;rw[<- bC]at bF;subst bC;have aF:=fe;have a7:Hid (iP ad b3 25 #[(),()]):=iB (kq B3.out an aF);have aj:Hid (kZ n1 57 2 oH yR (fun b=>decide (b<n1)) ad (.slice eA I ec) I):=OE.out.iv rG a6 (lp a6) aF;replace B3:=a7;replace OE:=aj;clear a7 aj;have aT:=ij cq.out aF;have eM:n1<=ad:=by have:=ae;omega
    have gx:aa<i84:=by have h1:=dN;have h2:=dL;have h3:=cm;have h4:=dK;omega
    have cK:=ef.out.blk;have bb:=RB.out;have HK:Hid (∀U,ik ad U->U.cell? (q,3)=(eA,I,ec)/\U.cell? ra=s/\U.cell? (ra,1)=(tA,tl,tc)):=fun U hU=>⟨((mZ (k:=hU) cK).cell 3).trans rfl,((mZ (k:=hU) bb).cell 0).trans rfl,((mZ (k:=hU) bb).cell 1).trans rfl⟩
    have gn:=jo cK;have gm:=jo bb;go_wp2_with fail;refine jm (fun U:yM=>U.cell? (q,3)=(eA,I,ec)/\U.cell? ra=s/\U.cell? (ra,1)=(tA,tl,tc)) [8,9,10] (by kernel_rfl) ?_;have a_:(fun U:yM=>U.cell? (q,3)=(eA,I,ec)/\U.cell? ra=s/\U.cell? (ra,1)=(tA,tl,tc)) ad.drew:=HK.out _ zc;refine wT 0 [8,9,10] (.pointer q) a_ ?_;try simp only[Act.put,oF,oB,oq]
    refine wT 1 [2,3,4,7,8,9,10] (.pointer q) a_ ?_;try simp only[Act.put,oF,oB,oq]
    refine wT 2 [3,4,7,8,9,10] (.pointer q) a_ ?_;try simp only[Act.put,oF,oB,oq]
    refine wT 3 [4,7,8,9,10] (.pointer (q,3)) a_ ?_;try simp only[Act.put,oF,oB,oq]
    refine wT 4 [7,8,9,10] ((.slice eA I ec)) a_ ?_;try simp only[Act.put,oF,oB,oq]
    refine wT 5 [6,7,8,9,10] (.agg #[s,(tA,tl,tc)]) a_ ?_;try simp only[Act.put,oF,oB,oq]
    clear a_;obtain⟨bR,dx,bw,bU,cI,aX,fq,fc⟩:∃z,(ad.alloc (.cells #[s,(tA,tl,tc)] 57)).drew=z/\ik ad z/\oZ z (ad+1) 2 (some ad.heap.size) 1 (oH (iW.mk s ⟨tA,tc,tl⟩))/\n1<=z/\kZ n1 57 2 oH yR (fun b=>decide (b<n1)) z (.slice eA I ec) I/\iP z q 95 #[(A,L,c),en,(i84:Nat),(eA,I,ec)]/\ik (iz q ad) (iz q z):=⟨_,rfl,zc,uY (jC ..).drew _ rfl 1 2 rfl,by rw[xy,iH];omega,OE.out.after rG zc,mZ (w:=ad) cK,im zc⟩;have fG:iP bR b3 25 #[(),()]:=mZ (w:=ad) (k:=bw) B3.out;have gv:aB.heap.size<=ad:=by have h1:=lZ aF;exact h1
    have fD:yR (old aB bR) (iW.mk s ⟨tA,tc,tl⟩):=⟨hS.out,(DT.out.below lD (jK bw).below).sub sj (iS (by omega) bR),dF⟩;refine lH 6 ?_;go_simp;try rw[dx]
    refine kS (HK.out _ bw) ?_;refine lH 7 ?_;obtain⟨bA,ax,aw,av,au⟩:=info_parts Rk;refine jZ bR (.tmp 52) (.tmp 54) 22 rfl n1 57 bA _ 2 _ underlying22 ax aw av au rfl (by decide) (.slice eA I ec) I.length (I.flatMap oH) rfl aX.own _ _ 1 1 (oH (iW.mk s ⟨tA,tc,tl⟩)) rfl bU (by intro u hu;simp only[oH,la]at hu;rcases hu with rfl | rfl<;>rfl) (by unfold maxLen;omega) (by omega) cI ?_;intro v5 bt ah ab b5;clear ax aw av au;obtain⟨A5,c5,rfl,_,_⟩:=ji ah;have dP:∀b,((.slice eA I ec):Value).ownBlock=some b->b<aB.heap.size:=fun b hb=>(ey.out.own.lt b hb).2
    have cv:kZ n1 57 2 oH yR (fun b=>decide (b<n1)) bt (.slice A5 (I+1) c5) (I++[(iW.mk s ⟨tA,tc,tl⟩)]):=aX.add (m:=aB.heap.size) rG fD (fun b hb=>by have hb:=vO hb;have:=cy;omega) dP ah ab b5;have bq:iP bt q 95 #[(A,L,c),en,(i84:Nat),(eA,I,ec)]:=oY fq ab (fun e=>by have:=(aX.own.lt q e.symm).1;omega);have bj:iP bt ra 57 #[s,(.slice tA tl tc)]:=oY (mZ (w:=ad) (k:=bw) bb) ab (fun e=>by have:=dP ra e.symm;have:=bF;omega);have fF:iP bt b3 25 #[(),()]:=oY fG ab (fun e=>by have:=(aX.own.lt b3 e.symm).1;omega);have fb:=kF (ij aT fc) aX.own ab a6 dc;obtain⟨cw,dw,fp,e4,cX,ew,cz⟩:∃z,bt.setCell (q,3) (.slice A5 (I+1) c5)=z/\iP z q 95 #[(A,L,c),en,(i84:Nat),(.slice A5 (I+1) c5)]/\ik (iz q w0) (iz q z)/\Hid (iP z b3 25 #[(),()])/\Hid (kZ n1 57 2 oH yR (fun b=>decide (b<n1)) z (.slice A5 (I+1) c5) (I++[(iW.mk s ⟨tA,tc,tl⟩)]))/\n1<=z:=⟨_,rfl,bq.jx 3 _,by rw[jJ];exact fb,iB (tV (p:=(q,3)) fF an _),cv.set rG (lp a6) (fun e=>by have:=(cv.own.lt q e).1;omega) 3 _,by rw[jc];exact jW (jW eM bw.below.size) ab.size⟩
    (first | refine⟨⟨(bq.cell 3).trans rfl,(bj.cell 0).trans rfl,(bj.cell 1).trans rfl⟩,?_⟩ | refine⟨fun _=>⟨(bq.cell 3).trans rfl,(bj.cell 0).trans rfl,(bj.cell 1).trans rfl⟩,?_⟩)
    obtain⟨m0,m1,m2,m3⟩:=iP.c4 bq;have ml:=jo bq;obtain⟨az,ay,eP,eO⟩:=iP.f4 bq;refine lH 8 ?_;go_simp;try refine kL ?_
    refine lH 9 ?_;go_simp;try refine kL ?_
    refine lH 10 ?_;go_simp;try refine kL ?_
    try rw[dw]
    refine iT (by kernel_rfl) ?_ _;have c_:ik B0 (iz q cw):=ij b6.aft e4;have aJ:ir 2 sM (old n1 cw) ⟨A5,c5,(I++[(iW.mk s ⟨tA,tc,tl⟩)])⟩:=by
     obtain⟨A',c',e,hR⟩:=ew.out.row (P:=sM) rG (fun b hb=>lp hb) (fun _=>rfl) (by rw[mo];have:=aI.out;simp;omega) (fun W b o y hy hj=>I7 hy hj);rw[mo]at e;injection e with e1 e2 e3
     subst e1;subst e3;exact hR
    have b7:i84<=L:=ef.out.le;have R9:=iB (b6.P1 (el':=(I++[(iW.mk s ⟨tA,tc,tl⟩)])) c_ b7 (by rw[mo];exact fp) aJ a6);have b2:Hid ((I++[(iW.mk s ⟨tA,tc,tl⟩)]).length+m=24):=by (show _=_;rw[mo];have:=aI.out;simp;omega)
    replace R:Hid (X=mE m ((I++[(iW.mk s ⟨tA,tc,tl⟩)]).map iW.er) (L.drop i84)):=by (show _=_;rw[s_];exact R.out)
    have fy:Hid (kZ n1 57 2 oH yR (fun b=>decide (b<n1)) cw (.slice A5 (I++[(iW.mk s ⟨tA,tc,tl⟩)]).length c5) (I++[(iW.mk s ⟨tA,tc,tl⟩)])):=by (rw[mo];exact ew)
    clear m0 m1 m2 m3 ml az ay eP eO;go_wp2_with fail;go_roundw
    case rel=>exact⟨i84,m,_,A5,c5,(I++[(iW.mk s ⟨tA,tc,tl⟩)]),dh,b2,R,R9,e4,cz,cX,fy⟩
    case measure=>(rw[je R9.out.fields.2.2.1,d1.out];omega)
   have bN:Hid (Rd B q A c L en eA ec I bl (i9+1)):=iB RZ;replace R:=iB (R.trans (iG HZ));rw[tail_drop]at R;have bx:Hid (i0<=i9+1):=wc cc;have fL:=pI HZ.out;have aq:Hid (iP bl ra 57 #[s,v2]):=iB (kq RB.out aG aK);have ar:Hid (kZ n2 9 1 mz rk (fun b=>decide (b<n2)) bl v2 (J++[x9])):=OL.out.iv lS ai (lp ai) aK;have RB:=aq;have OL:=ar;replace ae:=jW ae (lZ aK);have dJ:bp<=i9+1:=by omega
   go_wp2_with fail;go_roundw
   case rel=>exact⟨i9+1,m',v2,_,bx,dJ,a8,R,bN,e5,ae,RB,OL⟩
   case measure=>(rw[je bN.out.fields.2.2.1,d2.out];have h1:=cm;have h2:=bN.le;omega)
  obtain rfl:m'=0:=by have:=aP.out;omega
  have bQ:Hid (X=none):=R;obtain⟨a,er,rfl,he⟩:=hf;unfold oD;go_wp2_with fail;exact⟨rfl,sJ.bad bQ (ij ao cO) (jz a er he)⟩
 obtain rfl:m=0:=by have:=aI.out;omega
 have bQ:Hid (X=none):=R;obtain⟨a,er,rfl,he⟩:=hf;unfold oD;go_wp2_with fail;exact⟨rfl,sJ.bad bQ (ij ao bM) (jz a er he)⟩
end
section
abbrev TT (w:yM) (e:Ending) (w':yM):Prop:=e=.returned (.bool true)/\ik w w'
abbrev Yes (f:FuncId) (a:Array Value) (w0:yM):Prop:=∀U,ik w0 U->Calls prog f a U (TT U)
abbrev CelsOf {α:Type} (P:yM->Nat->Nat->α->Prop) (cells:α->zO):Prop:=∀w b o y,P w b o y->∀j u,(cells y)[j]?=some u->w.cell? ⟨b,o+j,none⟩=some u
abbrev EqR {α:Type} (n:Nat) (P:yM->Nat->Nat->α->Prop) (cells:α->zO) (f g:FuncId):Prop:=∀{w0:yM} {x y:nB α},ir n P w0 x->ir n P w0 y->x.l.length=y.l->(∀(i:Nat) (a b:α),x.l[i]?=some a->y.l[i]?=some b->Yes g #[.agg (cells a).toArray,.agg (cells b).toArray] w0)->Yes f #[x.val,y.val,.func (.func g) #[] #[]] w0
theorem eqR {α:Type} {n:Nat} {P:yM->Nat->Nat->α->Prop} {cells:α->zO} {f g:FuncId} (hk:tO P) (hc:CelsOf P cells) (H:tO P->CelsOf P cells->EqR n P cells f g:=by
  intro hk hc w0 x y hx hy hl hS w aft;obtain⟨A,c,l⟩:=x;obtain⟨B,d,m⟩:=y;have bx:=hx.len;have by_:=hy.len;replace hx:=iy hx;replace hy:=iy hy;replace hS:=iy hS;replace hc:=iy hc;unfold nB.val;simp only[]at bx by_ hl⊢;obtain⟨N,hN⟩:=jt l.length;rw[<- hl]at by_⊢;rw[hN]at bx by_⊢;go_in;go_wp2_with fail;go_loopw [17] (fun i wr=>∃j:Nat,j<=N/\i=.int .i64 (j:Nat)/\ik w wr) (fun i _=>N-(intOf i).toNat)
  ·exact⟨0,by omega,rfl,zc⟩
  case round=>
  obtain⟨j,hj,rfl,ar⟩:=hrel;have af:=ij aft ar;by_cases lt:j<N
  ·have lt':(j:Int)<(N:Int):=iu
   obtain⟨b,p,u1,rfl,L1,I1,hP⟩:=(ir.below hk hx af.below).part (i:=j) (by show j<l.length;omega);obtain⟨b2,p2,u2,rfl,L2,I2,hQ⟩:=(ir.below hk hy af.below).part (i:=j) (by show j<m.length;omega);have HC:=iy (hS.out j u1 u2 I1.out I2.out);replace hP:=iy (hc.out _ _ _ _ hP);replace hQ:=iy (hc.out _ _ _ _ hQ);have e0:=hP.out 0 _ rfl;have g0:=hQ.out 0 _ rfl;rw[xP]at e0 g0;try have e1:=hP.out 1 _ rfl
   try have e2:=hP.out 2 _ rfl
   try have e3:=hP.out 3 _ rfl
   try have e4:=hP.out 4 _ rfl
   try have e5:=hP.out 5 _ rfl
   try have e6:=hP.out 6 _ rfl
   try have e7:=hP.out 7 _ rfl
   try have g1:=hQ.out 1 _ rfl
   try have g2:=hQ.out 2 _ rfl
   try have g3:=hQ.out 3 _ rfl
   try have g4:=hQ.out 4 _ rfl
   try have g5:=hQ.out 5 _ rfl
   try have g6:=hQ.out 6 _ rfl
   try have g7:=hQ.out 7 _ rfl
   try rw[yr]at e0 g0
   try simp only[nB.val]at *
   go_wp2_with fail;refine (HC.out _ (ij af zc)).mono ?_;rintro e w2 ⟨rfl,a2⟩;have ab:=ij ar (ij (show ik wr _ from zc) a2);go_wp2;go_roundw
   case rel=>exact⟨j+1,by omega,by go_num,ab⟩
   case measure=>simp only[intOf];omega
  obtain rfl:j=N:=iu
  go_wp2;go_ret;exact⟨rfl,ar⟩):EqR n P cells f g:=H hk hc
theorem map_get {α β:Type} {er:α->β} {l m:List α} (h:l.map er=m.map er) {i:Nat} {a b:α} (ha:l[i]?=some a) (hb:m[i]?=some b):er a=er b:=by
 have:=nQ (fun t=>t[i]?) h;simpa[ha,hb] using this
abbrev EqT {α β:Type} (P:yM->Nat->Nat->α->Prop) (cells:α->zO) (er:α->β) (g:FuncId):Prop:=∀{w0:yM} {a b:α} {B o B' o':Nat},P w0 B o a->P w0 B' o' b->er a=er b->Yes g #[.agg (cells a).toArray,.agg (cells b).toArray] w0
abbrev EqL {α β:Type} (n:Nat) (P:yM->Nat->Nat->α->Prop) (er:α->β) (f g:FuncId):Prop:=∀{w0:yM} {x y:nB α},ir n P w0 x->ir n P w0 y->x.l.map er=y.l.map er->Yes f #[x.val,y.val,.func (.func g) #[] #[]] w0
theorem EqR.l {α β:Type} {n:Nat} {P:yM->Nat->Nat->α->Prop} {cells:α->zO} {er:α->β} {f g:FuncId} (E:EqR n P cells f g) (T:EqT P cells er g):EqL n P er f g:=fun hx hy h=>E hx hy (by have:=nQ List.length h;simpa using this) fun i a b ha hb=>by
 obtain⟨_,_,h3⟩:=hx.elem ha;obtain⟨_,_,h4⟩:=hy.elem hb;exact T h3 h4 (map_get h ha hb)
theorem neq_on (s:yB) (t v:Int) (w:yM):(binOp BinOp.neq 178 (.agg #[s,t,v]) (.agg #[s,t,v])).run prog w=.ok (.bool false) w:=by simp[go_sem]
theorem eqS {α:Type} {n:Nat} {P:yM->Nat->Nat->α->Prop} {cells:α->zO} {f:FuncId} (hk:tO P) (hc:CelsOf P cells) (H:tO P->CelsOf P cells->∀{w0:yM} {x y:nB α},ir n P w0 x->ir n P w0 y->x.l=y.l->Yes f #[x.val,y.val] w0:=by
  intro hk hc w0 x y hx hy hl w aft;obtain⟨A,c,l⟩:=x;obtain⟨B,d,m⟩:=y;obtain rfl:l=m:=hl;have bx:=hx.len;replace hx:=iy hx;replace hy:=iy hy;replace hc:=iy hc;unfold nB.val;simp only[]at bx⊢;obtain⟨N,hN⟩:=jt l.length;rw[hN]at bx⊢;go_in;go_wp2_with fail;go_loopw [13] (fun i wr=>∃j:Nat,j<=N/\i=.int .i64 (j:Nat)/\ik w wr) (fun i _=>N-(intOf i).toNat)
  ·exact⟨0,by omega,rfl,zc⟩
  case round=>
  obtain⟨j,hj,rfl,ar⟩:=hrel;have af:=ij aft ar;by_cases lt:j<N
  ·have lt':(j:Int)<(N:Int):=iu
   obtain⟨b,p,u1,rfl,L1,I1,hP⟩:=(ir.below hk hx af.below).part (i:=j) (by show j<l.length;omega);obtain⟨b2,p2,u2,rfl,L2,I2,hQ⟩:=(ir.below hk hy af.below).part (i:=j) (by show j<l.length;omega);obtain rfl:u1=u2:=sI (I1.out.symm.trans I2.out);replace hP:=iy (hc.out _ _ _ _ hP);replace hQ:=iy (hc.out _ _ _ _ hQ);have e0:=hP.out 0 _ rfl;have g0:=hQ.out 0 _ rfl;rw[xP]at e0 g0;try rw[yr]at e0 g0
   try have e1:=hP.out 1 _ rfl
   try have e2:=hP.out 2 _ rfl
   try have g1:=hQ.out 1 _ rfl
   try have g2:=hQ.out 2 _ rfl
   try have hb:=neq_on u1.name u1.t u1.tag
   go_wp2_with fail;go_region;go_wp2;go_roundw
   case rel=>exact⟨j+1,by omega,by go_num,ij ar zc⟩
   case measure=>simp only[intOf];omega
  obtain rfl:j=N:=iu
  go_wp2;go_ret;exact⟨rfl,ar⟩):∀{w0:yM} {x y:nB α},ir n P w0 x->ir n P w0 y->x.l=y.l->Yes f #[x.val,y.val] w0:=H hk hc
theorem eq_strs:∀{w0:yM} {x y:nB yB},ir 1 sR w0 x->ir 1 sR w0 y->x.l=y.l->Yes 49 #[x.val,y.val] w0:=eqS lD (cells:=mz) fun w b o y h j u hj=>by
 rcases j with _ | j
 ·obtain rfl:=sI hj;exact h.1
 simp[mz]at hj
theorem eq_ons:∀{w0:yM} {x y:nB sO},ir 3 KJ w0 x->ir 3 KJ w0 y->x.l=y.l->Yes 94 #[x.val,y.val] w0:=eqS qF (cells:=mI) fun w b o y h j u hj=>by
 rcases j with _ | _ | _ | j<;>first | (obtain rfl:=sI hj;first | exact h.c0 | exact h.c1 | exact h.c2) | simp[mI]at hj
def PXq (w:yM) (b o:Nat) (x:Tx):Prop:=Kf w b o x/\RX w x
theorem eqr_x:EqR 6 PXq jj 56 57:=eqR (fun w w' b o y hb hlt h=>⟨h.1.keep fun i=>mH hb hlt,h.2.below hb⟩) fun w b o y h j u hj=>by
 obtain⟨⟨c0,c1,c2,c3,c4,c5⟩,-⟩:=h;rcases j with _ | _ | _ | _ | _ | _ | _ | _ | j<;>first | (obtain rfl:=sI hj;assumption) | cases hj
theorem RX.rows {w:yM} {k o t v:Int} {s:yB} {A:zA} {c:Nat} {xs:List Tx} (h:RX w (.mk k o t v s A c xs)):ir 6 PXq w ⟨A,c,xs⟩:=by
 have hb:=h.bounds;refine⟨?_,hb.2.1,hb.2.2.1,hb.2.2.2⟩;cases xs with
 |nil=>exact .inl rfl
 |cons x l=>
 obtain⟨b,p,a,e,L1,I,J,K⟩:=h.arg (i:=0) (by simp[Tx.args]);refine .inr ⟨b,p,e,L1.le,fun i y hy=>?_⟩;obtain⟨b2,p2,a2,e2,-,I2,J2,K2⟩:=h.arg (i:=i) (by have:=rq.1 hy;exact this.1);obtain rfl:=sI (hy.symm.trans I2);injection e.symm.trans e2 with h1
 injection h1 with h1 h2
 subst h1 h2;exact⟨J2,K2⟩
theorem eq_txN (N:Nat):∀(x y:Tx) (w0:yM),x.size<=N->RX w0 x->RX w0 y->x.er=y.er->Yes 57 #[.agg (jj x).toArray,.agg (jj y).toArray] w0:=by
 induction N with
 |zero=>intro x y w0 h;cases x;rw[Tx.size]at h;omega
 |succ N ih=>
 intro x y w0 h hx hy he w aft;obtain⟨k,o,t,v,s,A,c,xs⟩:=x;obtain⟨k',o',t',v',s',A',c',ys⟩:=y;rw[qp,qp]at he;injection he with h1 h2 h3 h4 h5 h6
 subst h1 h2 h3 h4 h5;have c0:=iy (eqr_x (x:=⟨A,c,xs⟩) (y:=⟨A',c',ys⟩) hx.rows hy.rows (by have:=nQ List.length h6;simpa using this) (fun i a b ha hb=>ih a b w0 (by have:=Tx.sizes_mem (show xs[i]?=some a from ha);rw[Tx.size]at h;omega) (hx.all _ (om ha)) (hy.all _ (om hb)) (map_get h6 ha hb)));clear hx hy ih h h6;show Calls _ _ #[.agg #[k,o,t,v,s,(A,xs,c)],.agg #[k,o,t,v,s,(A',ys,c')]] _ _
 go_in;go_wp2_with fail;refine (c0.out _ (ij aft zc)).mono ?_;rintro e w2 ⟨rfl,a2⟩;have ab:=ij (show ik w _ from zc) a2;go_wp2;go_ret;exact⟨rfl,ab⟩
theorem eq_tx {x y:Tx} {w0:yM} (hx:RX w0 x) (hy:RX w0 y) (he:x.er=y.er):Yes 57 #[.agg (jj x).toArray,.agg (jj y).toArray] w0:=eq_txN _ x y w0 (js _) hx hy he
theorem two_ {f:FuncId} {cs ds:Array Value} {w w0:yM} (T:TypeId) (aft:ik w0 w) (H:∀(g:Nat) (W:yM),w=g->(w.alloc (.cells cs T)).alloc (.cells ds T)=W->ik w W->Hid (∀U,ik W U->iP U g T cs/\iP U (g+1) T ds)->Calls prog f #[.agg cs,.agg ds] w (TT w):=by
  intro g W hg hW a2 HK;have aw:=ij aft a2;have ac:=iq W;clear ha hb;simp only[oH,CJ,pN,kx,jj,rZ,pM,I6,nB.val,lP,sb]at hW HK⊢;go_in;repeat
   have hB:=HK.out _ ac;have k0:=(hB.1.cell 0).trans (show _=some _ from rfl);have m0:=(hB.2.cell 0).trans (show _=some _ from rfl);try have k1:=(hB.1.cell 1).trans (show _=some _ from rfl)
   try have m1:=(hB.2.cell 1).trans (show _=some _ from rfl)
   try have k2:=(hB.1.cell 2).trans (show _=some _ from rfl)
   try have m2:=(hB.2.cell 2).trans (show _=some _ from rfl)
   try have k3:=(hB.1.cell 3).trans (show _=some _ from rfl)
   try have m3:=(hB.2.cell 3).trans (show _=some _ from rfl)
   try have k4:=(hB.1.cell 4).trans (show _=some _ from rfl)
   try have m4:=(hB.2.cell 4).trans (show _=some _ from rfl)
   try have k5:=(hB.1.cell 5).trans (show _=some _ from rfl)
   try have m5:=(hB.2.cell 5).trans (show _=some _ from rfl)
   try have k6:=(hB.1.cell 6).trans (show _=some _ from rfl)
   try have m6:=(hB.2.cell 6).trans (show _=some _ from rfl)
   try have k7:=(hB.1.cell 7).trans (show _=some _ from rfl)
   try have m7:=(hB.2.cell 7).trans (show _=some _ from rfl)
   have kl:=hB.1.is_le;have ml:=hB.2.is_le;clear hB;go_wp2_with fail;try rw[hW]
   try rw[hg]
   first | (refine (c0.out _ aw).mono ?_;clear c0) | (refine (c1.out _ aw).mono ?_;clear c1) | (refine (c2.out _ aw).mono ?_;clear c2) | (refine (c3.out _ aw).mono ?_;clear c3) | (refine (c4.out _ aw).mono ?_;clear c4) | (refine (c5.out _ aw).mono ?_;clear c5) | (refine (c6.out _ aw).mono ?_;clear c6)
   rintro e w4 ⟨rfl,b⟩;replace aw:=ij aw b;replace ac:=ij ac b;clear b k0 m0 kl ml;try clear k1 m1
   try clear k2 m2
   try clear k3 m3
   try clear k4 m4
   try clear k5 m5
   try clear k6 m6
   try clear k7 m7
  go_wp2;go_ret;exact⟨rfl,ij a2 ac⟩):Calls prog f #[.agg cs,.agg ds] w (TT w):=H _ _ rfl rfl zc (iy fun U hU=>⟨((jC w T cs).alloc (.cells ds T)).after (k:=hU),(AO (iH _ _) T ds).after (k:=hU)⟩)
theorem eq_en:EqL 2 sM iW.er 21 22:=by
 refine EqR.l (eqR (cells:=oH) lU ?_) ?_
 ·rintro w b o y ⟨c0,c1,-⟩ j u hj
  rcases j with _ | _ | _ | _ | _ | _ | _ | _ | j<;>first | (obtain rfl:=sI hj;assumption) | cases hj
 intro w0 a b _ _ _ _ ha hb he w aft;obtain⟨n,t⟩:=a;obtain⟨n',t'⟩:=b;obtain rfl:n=n':=nQ KD.name he;have c0:=iy (eq_strs ha.tg hb.tg (nQ KD.tags he));exact two_ 57 aft
theorem eq_decl:EqL 3 jG iO.er 50 51:=by
 refine EqR.l (eqR (cells:=CJ) iM ?_) ?_
 ·rintro w b o y ⟨-,c0,c1,c2,-⟩ j u hj
  rcases j with _ | _ | _ | _ | _ | _ | _ | _ | j<;>first | (obtain rfl:=sI hj;assumption) | cases hj
 intro w0 a b _ _ _ _ ha hb he w aft;obtain⟨n,t,c⟩:=a;obtain⟨n',t',c'⟩:=b;obtain rfl:n=n':=nQ FZ.name he;obtain rfl:t=t':=nQ FZ.ty he;have c0:=iy (eq_ons ha.cl hb.cl (nQ FZ.clock he));exact two_ 77 aft
variable {S:Prop}
theorem eq_eq:EqL 7 (xv S) oX.er 52 53:=by
 refine EqR.l (eqR (cells:=pN) mX ?_) ?_
 ·rintro w b o y ⟨-,-,c0,⟨c1,c2,c3,c4,c5,c6⟩,-⟩ j u hj
  rcases j with _ | _ | _ | _ | _ | _ | _ | _ | j<;>first | (obtain rfl:=sI hj;assumption) | cases hj
 intro w0 a b _ _ _ _ ha hb he w aft;obtain⟨l,r⟩:=a;obtain⟨l',r'⟩:=b;have c0:=iy (eq_strs ha.lf hb.lf (nQ En.left he));have c1:=iy (eq_tx ha.ri hb.ri (nQ En.right he));exact two_ 79 aft
theorem eq_tr:EqL 8 (Eo S) ma.er 135 136:=by
 refine EqR.l (eqR (cells:=kx) As ?_) ?_
 ·rintro w b o y ⟨-,-,⟨c0,c1,c2,c3,c4,c5⟩,c6,c7,-⟩ j u hj
  rcases j with _ | _ | _ | _ | _ | _ | _ | _ | j<;>first | (obtain rfl:=sI hj;assumption) | cases hj
 intro w0 a b _ _ _ _ ha hb he w aft;obtain⟨x,d,r⟩:=a;obtain⟨x',d',r'⟩:=b;obtain rfl:d=d':=nQ Qb.dst he;obtain rfl:r=r':=nQ Qb.res he;have c0:=iy (eq_tx ha.co hb.co (nQ Qb.cond he));exact two_ 223 aft
theorem eq_txs:EqL 6 (Bu S) Tx.er 56 57:=by
 refine EqR.l (eqR (cells:=jj) nH ?_) ?_
 ·rintro w b o y ⟨-,-,⟨c0,c1,c2,c3,c4,c5⟩,-⟩ j u hj
  rcases j with _ | _ | _ | _ | _ | _ | _ | _ | j<;>first | (obtain rfl:=sI hj;assumption) | cases hj
 intro w0 a b _ _ _ _ ha hb he w aft;exact eq_tx ha.rx hb.rx he w aft
theorem eqr_au:EqR 1 (xM S) pM 54 55:=eqR qO (by
 rintro w b o y ⟨c0,-⟩ j u hj;rcases j with _ | _ | _ | _ | _ | _ | _ | _ | j<;>first | (obtain rfl:=sI hj;assumption) | cases hj)
theorem eqr_st:EqR 6 (OZ S) I6 95 96:=eqR Lw (by
 rintro w b o y ⟨⟨c0,c1,c2,c3,c4,c5⟩,-⟩ j u hj;rcases j with _ | _ | _ | _ | _ | _ | _ | _ | j<;>first | (obtain rfl:=sI hj;assumption) | cases hj)
theorem eq_auN (N:Nat):∀(a b:AuT) (w0:yM),SizeOf.sizeOf a<=N->zS S w0 a->zS S w0 b->a.er=b.er->Yes 55 #[.agg (pM a).toArray,.agg (pM b).toArray] w0:=by
 induction N with
 |zero=>intro a b w0 h;obtain⟨A,c,l⟩:=a;rw[AuT.mk.sizeOf_spec]at h;omega
 |succ N ih=>
 intro a b w0 h ha hb he w aft;obtain⟨A,c,l⟩:=a;obtain⟨A',c',l'⟩:=b;rw[AuT.mk.sizeOf_spec]at h;injection he with he
 rw[Rs,Rs]at he;have c0:=iy (eqr_st ha.rows hb.rows (by have:=nQ List.length he;simpa using this) fun i x y hx hy w aft=>by
  obtain⟨_,_,p⟩:=ha.rows.elem (show _ from hx);obtain⟨_,_,q⟩:=hb.rows.elem (show _ from hy);have hm:=List.sizeOf_lt_of_mem (show _∈l from om hx);have he:=map_get he hx hy;obtain⟨n,l,e,A,c,a,u,v⟩:=x;obtain⟨n',l',e',A',c',a',u',v'⟩:=y;injection he with h1 h2 h3 h4 h5 h6
  subst h1;obtain⟨_,e1,e2,e3,e4,e5⟩:=p.2.parts;obtain⟨_,f1,f2,f3,f4,f5⟩:=q.2.parts;rw[StT.mk.sizeOf_spec]at hm;rw[QP,QP]at h4;have c0:=iy (eq_decl e1 f1 h2);have c1:=iy (eq_eq e2 f2 h3);have c2:=iy (eqr_au e5 f5 (by have:=nQ List.length h4;simpa using this) fun i x y hx hy=>by
   obtain⟨_,_,p⟩:=e5.elem (show _ from hx);obtain⟨_,_,q⟩:=f5.elem (show _ from hy);have:=List.sizeOf_lt_of_mem (show _∈a from om hx);exact ih x y w0 iu p.2 q.2 (map_get h4 hx hy))
  have c3:=iy (eq_tr e3 f3 h5);have c4:=iy (eq_tr e4 f4 h6);clear e1 e2 e3 e4 e5 f1 f2 f3 f4 f5 p q ih;exact two_ 184 aft)
 exact two_ 131 aft
theorem eq_au:EqL 1 (xM S) AuT.er 54 55:=EqR.l eqr_au fun ha hb he=>eq_auN _ _ _ _ (js _) ha.2 hb.2 he
theorem eq_nd:EqL 8 (Gy S) nh.er 23 24:=by
 refine EqR.l (eqR (cells:=rZ) Ax ?_) ?_
 ·rintro w b o y ⟨c0,c1,c2,c3,c4,c5,c6,c7,-⟩ j u hj
  rcases j with _ | _ | _ | _ | _ | _ | _ | _ | j<;>first | (obtain rfl:=sI hj;assumption) | cases hj
 intro w0 a b _ _ _ _ ha hb he w aft;obtain⟨n,i,o,l,e,a,s,t⟩:=a;obtain⟨n',i',o',l',e',a',s',t'⟩:=b;injection he with h1 h2 h3 h4 h5 h6 h7 h8
 obtain rfl:n=n':=h1;have c0:=iy (eq_decl ha.r1 hb.r1 h2);have c1:=iy (eq_decl ha.r2 hb.r2 h3);have c2:=iy (eq_decl ha.r3 hb.r3 h4);have c3:=iy (eq_eq ha.r4 hb.r4 h5);have c4:=iy (eq_au ha.r5 hb.r5 h6);have c5:=iy (eq_txs ha.r6 hb.r6 h7);have c6:=iy (eq_txs ha.r7 hb.r7 h8);exact two_ 65 aft
theorem psame_yes {w0:yM} {e e':nB iW} {n n':nB nh} (ha:ir 2 sM w0 e) (hb:ir 2 sM w0 e') (hn:ir 8 (Gy S) w0 n) (hn':ir 8 (Gy S) w0 n') (h1:e.l.map iW.er=e'.l.map iW.er) (h2:n.l.map nh.er=n'.l.map nh.er):Yes 7 #[.agg #[e.val,n.val],.agg #[e'.val,n'.val]] w0:=fun w aft=>by
 have c0:=iy (eq_en ha hb h1);have c1:=iy (eq_nd hn hn' h2);exact two_ 25 aft
end
theorem nf {α β:Type} {f g:α->Int} {er:α->β} (h:∀a b,er a=er b->f a=g b):∀{l m:List α},l.map er=m.map er->iw f l=iw g m
 |[],[],_=>rfl
 |[],b::m,hm=>by cases hm
 |a::l,[],hm=>by cases hm
 |a::l,b::m,hm=>by
  rw[mJ,mJ]at hm;injection hm with h1 h2
  rw[iw,iw,h a b h1,nf h h2]
theorem pW {α β:Type} {er:α->β} {l m:List α} (h:l.map er=m.map er):l.length=m:=by have:=nQ List.length h;simpa using this
theorem Da:∀a b:List AuT,AuT.kv a=AuT.kv b->a.length=b
 |[],[],_=>rfl
 |[],b::m,h=>by rw[AuT.kv,AuT.kv]at h;cases h
 |a::l,[],h=>by rw[AuT.kv,AuT.kv]at h;cases h
 |a::l,b::m,h=>by
  rw[AuT.kv,AuT.kv]at h;injection h with h1 h2
  rw[py,py,Da l m h2]
section
variable {el el':List iW}
theorem KE (h:el.map iW.er=el'.map iW.er) (t:Int):jV el' t=jV el t:=by
 unfold jV;by_cases J:t=1
 ·rw[iG J,iG J]
 rw[iV J,iV J];by_cases I:t=2
 ·rw[iG I,iG I]
 rw[iV I,iV I];by_cases o:3<=t
 ·rw[iG o,iG o]
  have j:(el[(t-3).toNat]?).map iW.er=(el'[(t-3).toNat]?).map iW.er:=by rw[<- JL,<- JL,h]
  cases ha:el[(t-3).toNat]? with
  |none=>
   cases hb:el'[(t-3).toNat]? with
   |none=>rfl
   |some v=>rw[ha,hb]at j;cases j
  |some u=>
  cases hb:el'[(t-3).toNat]? with
  |none=>rw[ha,hb]at j;cases j
  |some v=>
  rw[ha,hb]at j;injection j with j
  have:u.tags.l=v.tags.l:=nQ KD.tags j;show v.tags.l.length=u.tags.l.length
  rw[this]
 rw[iV o,iV o]
theorem NY (h:el.map iW.er=el'.map iW.er) (t v:Int):nq el' t v=nq el t v:=by unfold nq;rw[KE h]
theorem KP (s:yB):∀{l m:List iW} (j:Nat),l.map iW.er=m.map iW.er->AB s m j=AB s l j
 |[],[],_,_=>rfl
 |[],b::m,_,h=>by cases h
 |a::l,[],_,h=>by cases h
 |a::l,b::m,j,h=>by
  rw[mJ,mJ]at h;injection h with h1 h2
  have h3:a.tags.l=b.tags.l:=nQ KD.tags h1;rw[AB,AB,h3,KP s (j+1) h2]
theorem Ko (s:yB):∀{l m:List iW} (j:Nat),l.map iW.er=m.map iW.er->uv s m j=uv s l j
 |[],[],_,_=>rfl
 |[],b::m,_,h=>by cases h
 |a::l,[],_,h=>by cases h
 |a::l,b::m,j,h=>by
  rw[mJ,mJ]at h;injection h with h1 h2
  have h3:a.name=b.name:=nQ KD.name h1;rw[uv,uv,h3,Ko s (j+1) h2]
theorem Iw (h:el.map iW.er=el'.map iW.er):pw el el':=⟨⟨fun s=>KP s 0 h,KE h⟩,fun s=>Ko s 0 h⟩
mutual
theorem MW (h:el.map iW.er=el'.map iW.er):∀x y:Tx,x.er=y.er->x.size=y.size/\x.depth=y.depth/\kR x.list=kR y.list/\lv el x.list=lv el' y.list/\jL x.list=jL y.list
 |.mk k o t v s A c xs,.mk k' o' t' v' s' A' c' xs',he=>by
  rw[Tx.er,Tx.er]at he;injection he with h1 h2 h3 h4 h5 h6
  subst h1;subst h2;subst h3;subst h4;subst h5;obtain⟨g1,g2,g3,g4,g5,g6⟩:=MX h xs xs' h6;have e3:jL (.mk k o t v s A c xs::Tx.lists xs)=jL (.mk k o t v s A' c' xs'::Tx.lists xs'):=by
   unfold jL at g6⊢;rw[Bh,Bh,g6];rfl
  have I:uo (.mk k o t v s A c xs)=uo (.mk k o t v s A' c' xs'):=by show Ay k o t v s xs.length=Ay k o t v s xs'.length;rw[g5]
  have j:Bl el (.mk k o t v s A c xs)=Bl el' (.mk k o t v s A' c' xs'):=by
   show Dl el k t v xs.length=Dl el' k t v xs'.length
   unfold Dl;rw[KE h,NY h,g5]
  rw[Tx.size,Tx.size,Tx.depth,Tx.depth,Tx.list,Tx.list,kR,kR,lv,lv,I,j,g1,g2,g3,g4];exact⟨rfl,rfl,rfl,rfl,e3⟩
theorem MX (h:el.map iW.er=el'.map iW.er):∀x y:List Tx,Tx.kv x=Tx.kv y->Tx.sizes x=Tx.sizes y/\Tx.depths x=Tx.depths y/\kR (Tx.lists x)=kR (Tx.lists y)/\lv el (Tx.lists x)=lv el' (Tx.lists y)/\x.length=y/\jL (Tx.lists x)=jL (Tx.lists y)
 |[],[],_=>⟨rfl,rfl,rfl,rfl,rfl,rfl⟩
 |[],b::m,he=>by rw[Tx.kv,Tx.kv]at he;cases he
 |a::l,[],he=>by rw[Tx.kv,Tx.kv]at he;cases he
 |a::l,b::m,he=>by
  rw[Tx.kv,Tx.kv]at he;injection he with h1 h2
  obtain⟨f1,f2,f3,f4,f5⟩:=MW h a b h1;obtain⟨g1,g2,g3,g4,g5,g6⟩:=MX h l m h2;have e3:jL (a.list++Tx.lists l)=jL (b.list++Tx.lists m):=by
   unfold jL at f5 g6⊢;rw[He,He,f5,g6]
  rw[Tx.sizes,Tx.sizes,Tx.depths,Tx.depths,Tx.lists,Tx.lists,sw,sw,sr,sr,f1,f2,f3,f4,g1,g2,g3,g4,py,py,g5];exact⟨rfl,rfl,rfl,rfl,rfl,e3⟩
end
theorem FT (h:el.map iW.er=el'.map iW.er) {x y:Tx} (he:x.er=y.er):qk el x=qk el' y:=by
 obtain⟨J,I,o,j,-⟩:=MW h x y he;unfold qk vj;rw[J,I,o,j]
theorem PM {x y:Tx} (he:x.er=y.er):x.kind=y.kind:=by
 cases x;cases y;rw[Tx.er,Tx.er]at he;injection he
theorem QA (h:el.map iW.er=el'.map iW.er) (o:sO):vR el o=vR el' o:=by unfold vR;rw[NY h]
theorem zJ (h:el.map iW.er=el'.map iW.er) {p:Bool} {a b:iO} (he:a.er=b.er):jN el p a=jN el' p b:=by
 obtain⟨n,t,⟨A,c,l⟩⟩:=a;obtain⟨o,j,⟨R,J,I⟩⟩:=b;unfold iO.er at he;injection he with h1 h2 h3
 simp only[]at h1 h2 h3;subst h1;subst h2;subst h3;unfold jN;rw[KE h,show vR el=vR el' from funext (QA h)]
theorem M_ (h:el.map iW.er=el'.map iW.er) {a b:oX} (he:a.er=b.er):rN el a=rN el' b:=by
 obtain⟨⟨A,c,l⟩,x⟩:=a;obtain⟨⟨I,o,j⟩,y⟩:=b;unfold oX.er at he;injection he with h1 h2
 simp only[]at h1 h2;subst h1;unfold rN;simp only[];rw[FT h h2,PM h2]
theorem Mo (h:el.map iW.er=el'.map iW.er) {n:Nat} {s:Bool} {a b:ma} (he:a.er=b.er):tx el n s a=tx el' n s b:=by
 obtain⟨x,d,r⟩:=a;obtain⟨y,o,j⟩:=b;unfold ma.er at he;injection he with h1 h2 h3
 simp only[]at h1 h2 h3;subst h2;subst h3;unfold tx;simp only[];rw[FT h h1,(MW h x y h1).2.2.2.2]
mutual
theorem Qr (h:el.map iW.er=el'.map iW.er):∀(a b:StT) (n d:Nat),a.er=b.er->AM el n d a=AM el' n d b
 |.mk nm lo eq A c au ul ut,.mk nm' lo' eq' A' c' au' ul' ut',n,d,he=>by
  rw[StT.er,StT.er]at he;injection he with h1 h2 h3 h4 h5 h6
  subst h1;rw[AM,AM,pW h2,pW h3,Da au au' h4,pW h5,pW h6];unfold nN;rw[nf (fun a b=>zJ h) h2,nf (fun a b=>M_ h) h3,Kq h au au' (d+1) h4,nf (fun a b=>Mo h) h5,nf (fun a b=>Mo h) h6]
theorem Ku (h:el.map iW.er=el'.map iW.er):∀(a b:List StT) (n d:Nat),StT.kv a=StT.kv b->yA el n d a=yA el' n d b
 |[],[],_,_,_=>by rw[yA,yA]
 |[],b::m,_,_,he=>by rw[StT.kv,StT.kv]at he;cases he
 |a::l,[],_,_,he=>by rw[StT.kv,StT.kv]at he;cases he
 |a::l,b::m,n,d,he=>by
  rw[StT.kv,StT.kv]at he;injection he with h1 h2
  rw[yA,yA,Qr h a b n d h1,Ku h l m n d h2]
theorem Nr (h:el.map iW.er=el'.map iW.er):∀(a b:AuT) (d:Nat),a.er=b.er->rK el d a=rK el' d b
 |.mk A c l,.mk A' c' l',d,he=>by
  rw[AuT.er,AuT.er]at he;injection he with he
  have hl:l.length=l':=by have:=nQ (fun x=>(x.map F5.nm).length) he;simpa[EZ] using this
  rw[rK,rK,hl,Ku h l l' l'.length d he]
theorem Kq (h:el.map iW.er=el'.map iW.er):∀(a b:List AuT) (d:Nat),AuT.kv a=AuT.kv b->yu el d a=yu el' d b
 |[],[],_,_=>by rw[yu,yu]
 |[],b::m,_,he=>by rw[AuT.kv,AuT.kv]at he;cases he
 |a::l,[],_,he=>by rw[AuT.kv,AuT.kv]at he;cases he
 |a::l,b::m,d,he=>by
  rw[AuT.kv,AuT.kv]at he;injection he with h1 h2
  rw[yu,yu,Nr h a b d h1,Kq h l m d h2]
end
theorem Mx (h:el.map iW.er=el'.map iW.er) {a b:nh} (he:a.er=b.er):mY el a=mY el' b:=by
 obtain⟨nn,⟨iA,ic,il⟩,⟨oA,oc,ol⟩,⟨lA,lc,ll⟩,⟨qA,qc,ql⟩,⟨aA,ac,al⟩,⟨sA,sc,sl⟩,⟨aj,ai,nl⟩⟩:=a;obtain⟨a',⟨ah,ag,af⟩,⟨a_,a8,a7⟩,⟨ae,ad,ab⟩,⟨a6,a1,U⟩,⟨ao,an,ak⟩,⟨R,J,I⟩,⟨o,j,aa⟩⟩:=b;unfold nh.er at he;injection he with h1 h2 h3 h4 h5 h6 h7 h8
 simp only[]at h1 h2 h3 h4 h5 h6 h7 h8;subst h1;unfold mY Ek KN nN;simp only[];rw[pW h2,pW h3,pW h4,pW h5,pW h6,pW h7,pW h8,nf (fun a b=>zJ h) h2,nf (fun a b=>zJ h) h3,nf (fun a b=>zJ h) h4,nf (fun a b=>M_ h) h5,nf (fun a b=>Nr h a b 0) h6,nf (fun a b=>FT h) h7,nf (fun a b=>FT h) h8]
theorem Nt {a b:iW} (he:a.er=b.er):oy a=oy b:=by
 obtain⟨n,⟨A,c,l⟩⟩:=a;obtain⟨j,⟨J,I,o⟩⟩:=b;unfold iW.er at he;injection he with h1 h2
 simp only[]at h1 h2;subst h1;subst h2;rfl
theorem zG (el:List iW):∀(l:List nh) (k:Nat),(∀n∈l,mY el n=0)->(qy el l k).2.2=0
 |[],k,_=>by rw[qy]
 |n::l,k,h=>by rw[qy,iG (h n nG)];exact zG el l (k+1) fun x hx=>h x (qj _ hx)
theorem A_ {α:Type} {f:α->Int}:∀{l:List α},(∀x∈l,f x=0)->iw f l=0
 |[],_=>rfl
 |a::l,h=>by rw[iw,kC (h a nG)];exact A_ fun x hx=>h x (qj _ hx)
theorem CI {α β:Type} {er:α->β} {l m:List α} (h:l.map er=m.map er) {y:α} (hy:y∈m):∃x∈l,er x=er y:=by
 have:er y∈l.map er:=by rw[h];exact xL hy
 obtain⟨x,j,e⟩:=yQ.1 this;exact⟨x,j,e⟩
theorem LM {nl nl':List nh} (h:el.map iW.er=el'.map iW.er) (hn:nl.map nh.er=nl'.map nh.er) (h0:(nv el nl).2.2=0):(nv el' nl').2.2=0:=by
 obtain⟨R,J,h1,U⟩:=uX h0;have hp:Im el' nl'=0:=by
  unfold Im;rw[kC]
  ·exact A_ fun u I=>by
    obtain⟨x,j,e⟩:=CI h I;rw[<- Nt e];exact h1 x j
  unfold iX;rw[iG];simp only[mT,decide_eq_true_eq];have:=pW h;have:=pW hn;omega
 unfold nv;rw[iG hp];refine zG el' nl' 0 fun n o=>?_
 obtain⟨x,j,e⟩:=CI hn o;rw[<- Mx h e];exact U x j
end
def rV (P:List Pc):Prop:=∀c:UInt8,jQ c.toNat=false->zE c P=true
def NI (P:List Pc):Prop:=∀c:UInt8,jQ c.toNat=false->jQ (zD c P).toNat=false
theorem lC:rV []:=fun _ _=>rfl
theorem pJ:NI []:=fun _ h=>h
theorem mr {b:UInt8} {P:List Pc} (hb:ke b.toNat=true) (h:rV P):rV (.sp b::P):=fun c hc=>by
 show (ke b.toNat&&zE c P)=true
 rw[hb,h c hc];rfl
theorem nk {b:UInt8} {P:List Pc} (hb:jQ b.toNat=false):NI (.sp b::P):=fun c hc=>hb
theorem na {a b:List Pc} (ha:rV a) (hn:NI b) (hb:rV b):rV (a++b):=fun c hc=>by rw[se,ha _ (hn c hc),hb c hc];rfl
theorem Mn {t:Tk} {P:List Pc} (h4:t.kind≠4) (hv:P7 t=true) (hn:NI P) (h:rV P):rV (.tk t::P):=fun c hc=>by
 show (P7 t&&wa t (zD c P)&&zE c P)=true
 rw[hv,h c hc];unfold wa;rw[iV h4];split
 ·rfl
 rw[hn c hc];rfl
theorem uM {s:yB} {P:List Pc} (hs:kT s=true) (hn:NI P) (h:rV P):rV (rM s::P):=Mn (t:=⟨1,s⟩) (show (1:Int)≠4 by decide) hs hn h
theorem nX {l:List UInt8} {P:List Pc} (hs:RM ⟨l.toArray⟩=true) (hn:NI P) (h:rV P):rV (mB l::P):=Mn (t:=⟨3,⟨l.toArray⟩⟩) (show (3:Int)≠4 by decide) hs hn h
theorem Qi {n:Nat} {P:List Pc} (hs:n<=32768) (hn:NI P) (h:rV P):rV (.tk ⟨2,xF n⟩::P):=Mn (t:=⟨2,xF n⟩) (show (2:Int)≠4 by decide) (JN hs) hn h
theorem Sj {s:yB} {P:List Pc} (hs:s.data.toList.all (fun c=>yc c.toNat)=true) (h:rV P):rV (So s::P):=fun c hc=>by
 show (s.data.toList.all (fun c=>yc c.toNat)&&true&&zE c P)=true
 rw[hs,h c hc];rfl
def Qq (l:List UInt8):Bool:=xG.any (fun s=>s.data.toList==l)
theorem pL {l:List UInt8} {P:List Pc} (hs:Qq l=true) (h1:l≠[45]) (h2:l≠[60]) (h3:l≠[62]) (h:rV P):rV (mf l::P):=fun c hc=>by
 show (Qq l&&wa ⟨4,⟨l.toArray⟩⟩ (zD c P)&&zE c P)=true
 rw[hs,h c hc];unfold wa;rw[iG rfl];show (true&&(!(l==[45]&&_)&&!(l==[60]&&_)&&!(l==[62]&&_))&&true)=true
 rw[beq_eq_false_iff_ne.2 h1,beq_eq_false_iff_ne.2 h2,beq_eq_false_iff_ne.2 h3];rfl
theorem tw {l:List UInt8} {P:List Pc} (hs:Qq l=true) (h:rV P):rV (mf l::.sp 32::P):=fun c hc=>by
 show (Qq l&&wa ⟨4,⟨l.toArray⟩⟩ 32&&zE c (.sp 32::P))=true
 rw[hs,mr iI h c hc];unfold wa;rw[iG rfl];simp
theorem Cw {P:List Pc} (hd:∀c:UInt8,zD c P≠45/\zD c P≠62\/P=[]) (hP:P≠[]) (h:rV P):rV (mf [45]::P):=fun c hc=>by
 show (Qq [45]&&wa ⟨4,⟨#[45]⟩⟩ (zD c P)&&zE c P)=true
 rw[show Qq [45]=true by decide +kernel,h c hc];unfold wa;rw[iG rfl];rcases hd c with⟨h1,h2⟩ | h9
 ·simp[h1,h2]
 exact absurd h9 hP
theorem ru {a:UInt8} {l:List UInt8} {P:List Pc} (h:jQ a.toNat=false):NI (mf (a::l)::P):=fun c _=>h
theorem NJ {s:yB} {P:List Pc} (hs:kT s=true) (c:UInt8):mg (zD c (rM s::P)).toNat=true:=by
 have I:=(jM hs).1;unfold kT at hs;simp only[mT]at hs;have o:=hs.1.1.2;obtain⟨a,l,j⟩:=uq I;rw[j]at o;unfold zD;rw[lQ,j];exact o
theorem RY {n:Nat} {P:List Pc} (hn:n<=32768) (c:UInt8):jw (zD c (.tk ⟨2,xF n⟩::P)).toNat=true:=by
 have h:=JN hn;unfold Ri at h;simp only[mT,decide_eq_true_eq]at h;obtain⟨⟨⟨I,j⟩,-⟩,-⟩:=h;obtain⟨a,l,o⟩:=uq I;unfold zD;rw[Cm,o];rw[o]at j;simp only[Bh,mT]at j;exact j.1
theorem zT {c:UInt8} (h:mg c.toNat=true):c≠45/\c≠62:=⟨fun e=>by rw[e]at h;exact absurd h iI,fun e=>by rw[e]at h;exact absurd h iI⟩
theorem MF {c:UInt8} (h:jw c.toNat=true):c≠45/\c≠62:=⟨fun e=>by rw[e]at h;exact absurd h iI,fun e=>by rw[e]at h;exact absurd h iI⟩
theorem M' {s:yB} (h:(pb s.data.toList).2=0):s.data.toList.all (fun c=>yc c.toNat)=true:=by
 by_cases j:66<s.data.toList.length
 ·rw[wU j]at h;exact absurd h iI
 by_cases o:∃h l,Ag s.data.toList h l
 ·obtain⟨a,b,R,-⟩:=o
  have I:∀l:List Bool,(n_ l).all (fun c=>yc c.toNat)=true:=fun l=>by
   unfold n_;rw[List.all_map,Bk];intro x _;cases x<;>decide
  rw[R,wO,He,Bh,He,I,I];decide
 rw[Bg j (fun a b J=>o ⟨a,b,J⟩)]at h;exact absurd h iI
structure Du (el:List iW):Prop where
 tg:∀u∈el,∀g∈u.tags.l,kT g=true
 nm:∀u∈el,kT u.name=true
section
variable {el:List iW}
theorem Rj (hI:Du el) {t v:Int} (ht:qS el t) (hv:nq el t v=true):rV (wm el t v):=by
 unfold wm;by_cases o:t=1
 ·rw[iG o]
  split
  ·exact nX (by decide +kernel) pJ lC
  exact nX (by decide +kernel) pJ lC
 rw[iV o];by_cases j:t=2
 ·rw[iG j]
  unfold nq at hv;rw[iG j]at hv;simp only[mT,decide_eq_true_eq]at hv;split
  ·exact Cw (fun c=>.inl (MF (RY iu c))) (by simp) (Qi iu pJ lC)
  exact Qi iu pJ lC
 rw[iV j];have R:3<=t/\(t-3).toNat<el.length:=by
  rcases ht with h | h | h
  ·exact absurd h o
  ·exact absurd h j
  omega
 have J:=qn R.2;unfold nq at hv;rw[iV j]at hv;simp only[mT,decide_eq_true_eq]at hv;unfold jV at hv;rw[iV o,iV j,iG R.1,J]at hv;simp only[]at hv;rw[J];have I:v.toNat<(el[(t-3).toNat]).tags.l.length:=iu;show rV [rM ((el[(t-3).toNat]).tags.l.getD v.toNat ⟨#[]⟩)]
 rw[wC,qn I];exact uM (hI.tg _ (Fq _) _ (Fq _)) pJ lC
theorem Qf (hI:Du el) {t v:Int} {s:yB} (ht:qS el t) (hv:nq el t v=true) (hs:kT s=true):rV (FX el t v s):=
 nX (by decide +kernel) (nk iI) (mr iI (na (Rj hI ht hv) (ru iI) (pL (by decide +kernel) iI iI iI (uM hs (ru iI) (pL (by decide +kernel) iI iI iI lC)))))
theorem qX {a:Ar} (h:rV a.l):rV (kM a):=by
 unfold kM;split
 ·exact h
 exact pL (by decide +kernel) iI iI iI (na h (ru iI) (pL (by decide +kernel) iI iI iI lC))
theorem QO {o:Int} {P:List Pc} (h3:3<=o) (h16:o<=16) (h:rV P):rV (z_ o::.sp 32::P):=by
 rcases (by omega:o=3\/o=4\/o=5\/o=6\/o=7\/o=8\/o=9\/o=10\/o=11\/o=12\/o=13\/o=14\/o=15\/o=16) with e | e | e | e | e | e | e | e | e | e | e | e | e | e<;>(subst e;first | exact tw (by decide +kernel) h | exact nX (by decide +kernel) (nk iI) (mr iI h))
theorem Qk (hI:Du el) {t:Int} (ht:qS el t):∀(L:List Ar) (i:Nat),(∀a∈L,rV a.l)->(∀j,i<=j->j<i+L.length->nq el t (if t=1 then 1-(j:Int) else j)=true)->rV (wj el t i L)/\NI (wj el t i L)
 |[],i,_,_=>⟨by rw[wj];exact lC,by rw[wj];exact pJ⟩
 |a::L,i,ha,h=>by
  obtain⟨h1,h2⟩:=Qk hI ht L (i+1) (fun b hb=>ha b (qj _ hb)) fun j h9 h8=>h j iu (by simp only[py];omega)
  rw[wj];refine⟨mr iI (pL (by decide +kernel) iI iI iI (na (Rj hI ht (h i (js _) (by simp))) (nk iI) (mr iI (tw (by decide +kernel) ?_)))),nk iI⟩;exact na (ha a nG) (ru iI) (pL (by decide +kernel) iI iI iI h1)
theorem NO:∀{l:List (List Pc)},(∀x∈l,rV x)->rV (mq qR l)
 |[],_=>by rw[mq];exact lC
 |[a],h=>by rw[mq];exact h a nG
 |a::b::l,h=>by
  rw[mq,kD];exact na (h a nG) (ru iI) (pL (by decide +kernel) iI iI iI (mr iI (NO fun x hx=>h x (qj _ hx))))
theorem qY {L:List Ar} (h:∀a∈L,rV a.l) (i:Nat):rV (pF L i).l:=by
 unfold pF;rw[wC];cases hg:L[i]? with
 |none=>exact lC
 |some a=>exact h a (om hg)
theorem J8 (hI:Du el) {x:Ex} (hg:GE el x) (hc:kG x=false) (c:UInt8):zD c (kM ⟨kb x,kG x,kX el x⟩)≠45/\zD c (kM ⟨kb x,kG x,kX el x⟩)≠62:=by
 unfold kM;by_cases hp:kb x=true
 ·rw[iG hp]
  obtain⟨k,o,t,v,s,xs⟩:=x;rw[GE]at hg;rw[kb]at hp;rw[kG]at hc;rw[kX];obtain⟨-,⟨rfl,rfl,J,rfl,ht,j⟩ | ⟨rfl,rfl,rfl,rfl,J,I⟩ | ⟨rfl,ho,rfl,rfl,rfl⟩ | ⟨hk,rfl,rfl,rfl,rfl⟩ | ⟨rfl,rfl,J,a1,ht,j,I⟩ | ⟨rfl,rfl,rfl,a1,ht,J,a7,I⟩ | ⟨rfl,rfl,rfl,j,I⟩ | ⟨rfl,rfl,rfl,rfl,J,I⟩⟩:=hg.1
  ·have R:t≠2:=by simpa using hc
   show zD c (wm el t v)≠45/\zD c (wm el t v)≠62
   unfold wm;by_cases U:t=1
   ·rw[iG U]
    split
    ·exact⟨by show (116:UInt8)≠45;decide,by show (116:UInt8)≠62;decide⟩
    exact⟨by show (102:UInt8)≠45;decide,by show (102:UInt8)≠62;decide⟩
   rw[iV U,iV R];have h3:3<=t/\(t-3).toNat<el.length:=by
    rcases ht with h | h | h
    ·exact absurd h U
    ·exact absurd h R
    omega
   have hu:=qn h3.2;unfold nq at j;rw[iV R]at j;simp only[mT,decide_eq_true_eq]at j;unfold jV at j;rw[iV U,iV R,iG h3.1,hu]at j;simp only[]at j;rw[hu];have a6:v.toNat<(el[(t-3).toNat]).tags.l.length:=iu;show zD c [rM ((el[(t-3).toNat]).tags.l.getD v.toNat ⟨#[]⟩)]≠45/\zD c [rM ((el[(t-3).toNat]).tags.l.getD v.toNat ⟨#[]⟩)]≠62
   rw[wC,qn a6];exact zT (NJ (hI.tg _ (Fq _) _ (Fq _)) c)
  ·exact zT (NJ I c)
  ·simp at hp
  ·rcases hk with⟨rfl,-⟩ | ⟨rfl,-⟩ | ⟨rfl,-⟩ | ⟨rfl,-⟩<;>simp at hp
  ·simp at hp
  ·simp at hp
  ·exact zT (NJ I c)
  exact⟨by show (39:UInt8)≠45;decide,by show (39:UInt8)≠62;decide⟩
 rw[iV hp];exact⟨by show (40:UInt8)≠45;decide,by show (40:UInt8)≠62;decide⟩
theorem O7 {x:Ex} (hg:GE el x) (hI:Du el):kM ⟨kb x,kG x,kX el x⟩≠[]:=by
 intro h;have j:∀c,zD c (kM ⟨kb x,kG x,kX el x⟩)=c:=fun c=>by rw[h];rfl
 cases hc:kG x with
 |false=>exact (J8 hI hg hc 45).1 (j 45)
 |true=>
 obtain⟨k,o,t,v,s,I⟩:=x;rw[kG]at hc;simp only[mT,beq_iff_eq]at hc;obtain⟨rfl,rfl⟩:=hc;unfold kM at h;split at h
 ·rw[kX]at h
  have h:wm el 2 v=[]:=h;unfold wm at h;rw[iV iI,iG rfl]at h;split at h<;>cases h
 cases h
mutual
theorem Sa (hI:Du el):∀x:Ex,GE el x->rV (kX el x)
 |.mk k o t v s xs,hg=>by
  rw[GE]at hg;have hL:=Qh hI xs hg.2;have hG:∀i x,xs[i]?=some x->GE el x:=fun i x h=>hg.2.get h
  rw[kX];obtain⟨-,⟨rfl,rfl,hn,rfl,ht,hv⟩ | ⟨rfl,rfl,rfl,rfl,hn,hs⟩ | ⟨rfl,ho,rfl,rfl,rfl⟩ | ⟨hk,rfl,rfl,rfl,rfl⟩ | ⟨rfl,rfl,hn,ht2,ht,hv,hs⟩ | ⟨rfl,rfl,rfl,ht2,ht,hn,h1n,hs⟩ | ⟨rfl,rfl,rfl,hv,hs⟩ | ⟨rfl,rfl,rfl,rfl,hn,hs⟩⟩:=hg.1
  ·exact Rj hI ht hv
  ·exact uM hs pJ lC
  ·show rV (EA o (jy el xs))
   unfold EA;rcases ho with⟨h1,h2,hn⟩ | ⟨h1,h2,hn⟩
   ·by_cases h3:o=1
    ·rw[iG h3]
     exact nX (by decide +kernel) (nk iI) (mr iI (qX (qY hL 0)))
    rw[iV h3,iG iu];obtain⟨a,ha⟩:∃a,xs[0]?=some a:=⟨_,qn iu⟩;rw[pz el ha];have hoa:rV (kX el a):=by have:=qY hL 0;rw[pz el ha]at this;exact this
    show rV (if kG a=true then _ else _)
    split
    ·exact Cw (fun c=>.inl ⟨by show (40:UInt8)≠45;decide,by show (40:UInt8)≠62;decide⟩) (by simp) (pL (by decide +kernel) iI iI iI (na hoa (ru iI) (pL (by decide +kernel) iI iI iI lC)))
    rename_i hc
    exact Cw (fun c=>.inl (J8 hI (hG 0 a ha) (by simpa using hc) c)) (O7 (hG 0 a ha) hI) (qX hoa)
   rw[iV iu,iV iu];exact na (qX (qY hL 0)) (nk iI) (mr iI (QO h1 h2 (qX (qY hL 1))))
  ·rcases hk with⟨rfl,hn⟩ | ⟨rfl,hn⟩ | ⟨rfl,hn⟩ | ⟨rfl,hn⟩
   ·exact nX (by decide +kernel) (nk iI) (mr iI (na (qY hL 0) (nk iI) (mr iI (nX (by decide +kernel) (nk iI) (mr iI (na (qY hL 1) (nk iI) (mr iI (nX (by decide +kernel) (nk iI) (mr iI (qY hL 2))))))))))
   ·exact nX (by decide +kernel) (nk iI) (mr iI (qX (qY hL 0)))
   ·exact na (qX (qY hL 0)) (nk iI) (mr iI (tw (by decide +kernel) (qX (qY hL 1))))
   exact na (qX (qY hL 0)) (nk iI) (mr iI (nX (by decide +kernel) (nk iI) (mr iI (qX (qY hL 1)))))
  ·exact na (qX (qY hL 0)) (nk iI) (mr iI (Qf hI ht hv hs))
  ·have hb:=Qk hI ht (if t=1 then (jy el xs).reverse else jy el xs) 0 (by
    split
    ·exact fun a ha=>hL a (List.mem_reverse.1 ha)
    ·exact hL) (fun j _ hj=>uL ht2 hn (by
    have:(if t=1 then (jy el xs).reverse else jy el xs).length=xs.length:=by split<;>simp[nD]
    omega))
   exact nX (by decide +kernel) (nk iI) (mr iI (uM hs hb.2 hb.1))
  ·show rV (AU v s (jy el xs))
   unfold AU;refine uM hs (ru iI) (pL (by decide +kernel) iI iI iI (na (NO fun x hx=>?_) (ru iI) (pL (by decide +kernel) iI iI iI ?_)))
   ·obtain⟨a,ha,rfl⟩:=yQ.1 hx
    exact hL a (List.mem_of_mem_take ha)
   split
   ·exact mr iI (nX (by decide +kernel) (nk iI) (mr iI (qX (qY hL _))))
   exact lC
  exact Sj (M' hs) lC
theorem Qh (hI:Du el):∀xs:List Ex,IE el xs->∀a∈jy el xs,rV a.l
 |[],_,a,h=>by rw[jy]at h;cases h
 |x::xs,hg,a,h=>by
  rw[IE]at hg;rw[jy]at h;rcases uW.1 h with h | h
  ·rw[h];exact Sa hI x hg.1
  exact Qh hI xs hg.2 a h
end
def Hz (P:List Pc):Prop:=∀c:UInt8,zE c P=true
theorem BB:Hz []:=fun _=>rfl
theorem mU {a b:List Pc} (ha:Hz a) (hb:Hz b):Hz (a++b):=fun c=>by rw[se,ha _,hb c];rfl
theorem sg {k:Nat} {P:List Pc} (h:rV P):Hz (rL k P):=fun c=>by
 unfold rL;have hr:∀n d,zE d (List.replicate n (.sp 32))=true:=fun n=>by
  induction n with
  |zero=>exact fun _=>rfl
  |succ n ih=>exact fun d=>by rw[L6];show (ke 32&&zE d _)=true;rw[ih d];rfl
 rw[se,hr,se,h _ (by show jQ (10:UInt8).toNat=false;decide)];rfl
theorem wR {α:Type} {f:α->List Pc}:∀{l:List α},(∀x∈l,Hz (f x))->Hz (l.flatMap f)
 |[],_=>BB
 |a::l,h=>by rw[pZ];exact mU (h a nG) (wR fun x hx=>h x (qj _ hx))
theorem Fx {a:UInt8} {t:List UInt8} (ha:Qq (a::t)=true) (h1:a::t≠[45]) (h2:a::t≠[60]) (h3:a::t≠[62]) (hi:jQ a.toNat=false):∀{l:List (List Pc)},(∀x∈l,rV x)->rV (mq [mf (a::t),.sp 32] l)
 |[],_=>by rw[mq];exact lC
 |[x],h=>by rw[mq];exact h x nG
 |x::y::l,h=>by
  rw[mq,kD];exact na (h x nG) (ru hi) (pL ha h1 h2 h3 (mr iI (Fx ha h1 h2 h3 hi fun z hz=>h z (qj _ hz))))
theorem Kc:∀{l:List (List Pc)},(∀x∈l,rV x)->rV (mq [.sp 32] l)
 |[],_=>by rw[mq];exact lC
 |[x],h=>by rw[mq];exact h x nG
 |x::y::l,h=>by
  rw[mq,kD];exact na (h x nG) (nk iI) (mr iI (Kc fun z hz=>h z (qj _ hz)))
theorem J9:∀{l:List (List Pc)},(∀x∈l,rV x)->rV (mq Jj l)
 |[],_=>by rw[mq];exact lC
 |[x],h=>by rw[mq];exact h x nG
 |x::y::l,h=>by
  rw[mq,kD];exact na (h x nG) (nk iI) (mr iI (tw (by decide +kernel) (J9 fun z hz=>h z (qj _ hz))))
theorem Sf (hI:Du el) {t:Int} (ht:qS el t) {P:List Pc} (hn:NI P) (hP:rV P):rV (F6 el t::P):=by
 unfold F6;by_cases o:t=1
 ·rw[iG o];exact nX (by decide +kernel) hn hP
 rw[iV o];by_cases j:t=2
 ·rw[iG j];exact nX (by decide +kernel) hn hP
 rw[iV j];have I:(t-3).toNat<el.length:=by
  rcases ht with h | h | h
  ·exact absurd h o
  ·exact absurd h j
  omega
 rw[qn I];exact uM (hI.nm _ (Fq _)) hn hP
theorem Pz (hI:Du el) {d:iO} {port:Bool} (h:jN el port d=0):rV (pv el d):=by
 obtain⟨U,R,h3,J⟩:=yL h;unfold pv;refine uM U (ru iI) (tw (by decide +kernel) (Sf hI R ?_ ?_))
 ·split
  ·exact pJ
  exact nk iI
 split
 ·exact lC
 refine mr iI (Kc fun x j=>?_);obtain⟨o,I,rfl⟩:=yQ.1 j;obtain⟨g1,g2,g3,g4⟩:=Fb (jd J o I);exact Qf hI g3 g4 g1
theorem CG (hI:Du el) {l:List iO} {port:Bool} (h:nN el port l=0):rV (kO el l):=
 Fx (by decide +kernel) iI iI iI iI fun x hx=>by
  obtain⟨d,hd,rfl⟩:=yQ.1 hx;exact Pz hI (jd h d hd)
theorem Ee (hI:Du el) {k:Nat} {l:List iO} (h:nN el false l=0):Hz (nr el k l):=by
 unfold nr;split
 ·exact BB
 exact sg (nX (by decide +kernel) (nk iI) (mr iI (na (CG hI h) (ru iI) (pL (by decide +kernel) iI iI iI lC))))
theorem Mm {l:List yB} (h:iw jA l=0):rV (Bo l):=
 Fx (by decide +kernel) iI iI iI iI fun x hx=>by
  obtain⟨s,hs,rfl⟩:=yQ.1 hx;exact uM (nS (jd h s hs)) pJ lC
theorem NH (hI:Du el) {x:Tx} (h:qk el x=0):rV (kX el x.er):=Sa hI _ (Ki h).1
theorem P8 (hI:Du el) {k:Nat} {q:oX} (h:rN el q=0):Hz (zj el k q):=by
 obtain⟨J,I,j,o,-⟩:=Fz h;refine sg (na ?_ (nk iI) (mr iI (tw (by decide +kernel) (na (NH hI o) (ru iI) (pL (by decide +kernel) iI iI iI lC)))));unfold vU;split
 ·exact pL (by decide +kernel) iI iI iI (na (Mm j) (ru iI) (pL (by decide +kernel) iI iI iI lC))
 exact Mm j
theorem M1 (hI:Du el) {k:Nat} {wd:List UInt8} (hw:RM ⟨wd.toArray⟩=true) {nms:List yB} (hn:∀s∈nms,kT s=true) {l:List ma} (h:∀t∈l,qk el t.cond=0/\0<=t.dst/\t.dst<(nms:Int)):Hz (sk el k wd nms l):=
 wR fun t ht=>by
  obtain⟨h1,h2,h3⟩:=h t ht;have hlt:t.dst.toNat<nms:=iu;refine sg (nX hw (nk iI) (mr iI (na (NH hI h1) (nk iI) (mr iI ?_))));have hid:rV (rM (nms.getD t.dst.toNat ⟨#[]⟩)::[mf [59]]):=by
   rw[wC,qn hlt];exact uM (hn _ (Fq _)) (ru iI) (pL (by decide +kernel) iI iI iI lC)
  unfold Aj;split
  ·exact nX (by decide +kernel) (nk iI) (mr iI hid)
  exact nX (by decide +kernel) (nk iI) (mr iI hid)
mutual
theorem Si (hI:Du el):∀(a:AuT) (d k:Nat),rK el d a=0->Hz (CN el k a)
 |.mk A c l,d,k,h=>by
  rw[rK]at h;have h:=(jI (jI (jI h).2).2).2;rw[CN];refine mU (mU (sg (nX (by decide +kernel) pJ lC)) ?_) (sg (nX (by decide +kernel) pJ lC));refine Me hI l d k l (l.map StT.name) (by rw[pE]) ?_ h;intro s hs;obtain⟨x,hx,rfl⟩:=yQ.1 hs;rw[EL]at h;exact (wP (jd h x hx)).2.1
theorem Jg (hI:Du el):∀(l:List AuT) (d k:Nat),yu el d l=0->Hz (vN el k l)
 |[],_,_,_=>by rw[vN];exact BB
 |a::l,d,k,h=>by
  rw[yu]at h;rw[vN];exact mU (Si hI a d k (jI h).1) (Jg hI l d k (jI h).2)
theorem RJ (hI:Du el):∀(x:StT) (d k n:Nat) (nms:List yB),nms=n->(∀s∈nms,kT s=true)->AM el n d x=0->Hz (IC el k nms x)
 |.mk nm lo eq A c au ul ut,d,k,n,nms,hl,hn,h=>by
  have hq:=(wP h).2.1;rw[AM]at h;obtain⟨h1,h⟩:=jI h;obtain⟨h2,h⟩:=jI h;obtain⟨h3,h⟩:=jI h;obtain⟨h4,h⟩:=jI h;obtain⟨h5,h⟩:=jI h;obtain⟨h6,h7⟩:=jI h;rw[IC];refine mU (sg (nX (by decide +kernel) (nk iI) (mr iI (uM (nS h1) pJ lC)))) (mU (Ee hI h3) (mU (M1 hI (by decide +kernel) hn fun t ht=>?_) (mU (sg (nX (by decide +kernel) pJ lC)) (mU (mU (wR fun q hq=>P8 hI (jd h4 q hq)) (Jg hI au (d+1) (k+2) h5)) (mU (M1 hI (by decide +kernel) hn fun t ht=>?_) (sg (nX (by decide +kernel) pJ lC)))))))
  ·rw[hl];exact Af (jd h6 t ht)
  rw[hl];exact Af (jd h7 t ht)
theorem Me (hI:Du el):∀(l:List StT) (d k n:Nat) (nms:List yB),nms=n->(∀s∈nms,kT s=true)->yA el n d l=0->Hz (wi el k nms l)
 |[],_,_,_,_,_,_,_=>by rw[wi];exact BB
 |x::l,d,k,n,nms,hl,hn,h=>by
  rw[yA]at h;rw[wi];exact mU (RJ hI x d k n nms hl hn (jI h).1) (Me hI l d k n nms hl hn (jI h).2)
end
theorem Ih (hI:Du el) {kw:List UInt8} (hk:RM ⟨kw.toArray⟩=true) {x:Tx} (h:qk el x=0):Hz (kI el kw x):=
 sg (nX hk (nk iI) (mr iI (na (NH hI h) (ru iI) (pL (by decide +kernel) iI iI iI lC))))
theorem OO (hI:Du el) {n:nh} (h:mY el n=0):Hz (qo el n):=by
 obtain⟨k1,k2,k3,U,k5,k6,k7,k8,R,a8,I,a7,o,a6,j,a1⟩:=yW h;refine mU (sg ?_) (mU (Ee hI U) (mU (wR fun x J=>Ih hI (by decide +kernel) (jd o x J)) (mU (wR fun x J=>Ih hI (by decide +kernel) (jd j x J)) (mU (sg (nX (by decide +kernel) pJ lC)) (mU ?_ (sg (nX (by decide +kernel) pJ lC)))))))
 ·exact nX (by decide +kernel) (nk iI) (mr iI (uM k1 (ru iI) (pL (by decide +kernel) iI iI iI (na (CG hI k2) (ru iI) (pL (by decide +kernel) iI iI iI (mr iI (nX (by decide +kernel) (nk iI) (mr iI (pL (by decide +kernel) iI iI iI (na (CG hI k3) (ru iI) (pL (by decide +kernel) iI iI iI lC)))))))))))
 unfold qJ;exact mU (wR fun q hq=>P8 hI (jd R q hq)) (Jg hI _ 0 1 (by rw[Ff];exact I))
theorem Pv {u:iW} (h:oy u=0):Hz (sF u):=by
 obtain⟨J,U,R,I⟩:=qm h;refine sg (nX (by decide +kernel) (nk iI) (mr iI (uM J (nk iI) (mr iI (tw (by decide +kernel) (na (J9 fun x j=>?_) (ru iI) (pL (by decide +kernel) iI iI iI lC)))))));obtain⟨s,o,rfl⟩:=yQ.1 j;exact uM (nS (jd I s o)) pJ lC
theorem Q8 (h:∀u∈el,oy u=0):Du el:=⟨fun u hu g hg=>nS (jd (qm (h u hu)).2.2.2 g hg),fun u hu=>(qm (h u hu)).1⟩
theorem PT {nl:List nh} (h:(nv el nl).2.2=0):zE 32 (qK el nl)=true:=by
 obtain⟨-,-,j,J⟩:=uX h;exact mU (wR fun u o=>Pv (j u o)) (wR fun n I=>OO (Q8 j) (J n I)) 32
end
end Go.Proofs.YtnigblndonocfaaGreatDoor
