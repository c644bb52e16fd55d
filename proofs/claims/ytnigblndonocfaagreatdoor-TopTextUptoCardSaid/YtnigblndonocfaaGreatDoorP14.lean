/- A part of the proof. -/
import Derived.Test.YtnigblndonocfaaGreatDoorP13
import Derived.Lib.SliceRun
import Derived.Lib.AppendZeros
import Derived.Lib.LazyBuf
set_option linter.unusedVariables false
set_option linter.unusedSimpArgs false
namespace Go.Proofs.YtnigblndonocfaaGreatDoor
set_option maxRecDepth 100000
set_option maxHeartbeats 6400000
open Go.RowKit Go.BigFrame Go.Proofs.Tryz
section
variable {L:List (Int×yB)} {B:Nat} {K K':Yd} {w w' w'' D:yM} {b g sq:Nat} {pe pn:Value} {nd q:Int} {nA:zA} {nc:Nat} {nl:List nh}
theorem UJ:(prog.info? 9).map (fun i=>(i.zero,i.size,i.bytes))=some (some (.string ⟨#[]⟩),1,16):=by kernel_rfl
def T7 (w:yM) (b N:Nat):Prop:=∀cs,iP w b 140 cs->∃(A:zA) (n c:Nat),cs[4]?=(A,n,c)/\n<=N
theorem T7.keep {N:Nat} (h:T7 w b N) (e:w'.heap[b]?=w.heap[b]?):T7 w' b N:=fun cs hc=>h cs (e.symm.trans hc)
theorem T7.mono {N M:Nat} (h:T7 w b N) (e:N<=M):T7 w b M:=fun cs hc=>by
 obtain⟨A,n,c,h1,h2⟩:=h cs hc;exact⟨A,n,c,h1,by omega⟩
theorem J.nmF (j:J L B K w) (hk:K b=some .nm):∃(up:zA) (o d:Nat) (i:Option Nat) (A:zA) (n c:Nat) (xs:List yB),iP w b 140 #[.pointer up,.map (some o),.map (some d),.map i,(A,n,c)]/\K o=some .own9/\K d=some .flag/\(∀j,i=some j->K j=some .flag)/\(∀p,up=some p->p=⟨p.block,0,none⟩/\p.block<b/\K p.block=some .nm)/\w.ownsRow B 9 1 (.slice A n c) n (xs.map Value.string)/\∀r,(Value.slice A n c).ownBlock=some r->K r=some (.row b):=by
 obtain⟨up,o,d,i,v,n,s,q,m,k,h,xs,a,f⟩:=j.ok b _ hk;have e:∃A c,v=.slice A n c:=by
  rcases a.2 with⟨rfl,rfl⟩ | ⟨g,cap,cur,rfl,-⟩
  ·exact⟨none,0,rfl⟩
  exact⟨_,_,rfl⟩
 obtain⟨A,c,rfl⟩:=e;exact⟨up,o,d,i,A,n,c,xs,s,q,m,k,h,a,f⟩
theorem Ws.move {x:Nat} {k:Yg} (ho:Ws L B K w x k) (hK:∀y k,K y=some k->K' y=some k) (hx:w'.heap[x]?=w.heap[x]?) (hr:∀y,K y=some (.row x)->w'.heap[y]?=w.heap[y]?):Ws L B K' w' x k:=by
 cases k with
 |nm=>
  obtain⟨up,o,d,i,v,n,b,a,z,u,f,q,m,h⟩:=ho;refine⟨up,o,d,i,v,n,hx.trans b,hK _ _ a,hK _ _ z,fun j s=>hK _ _ (u j s),fun p hp=>⟨(f p hp).1,(f p hp).2.1,hK _ _ (f p hp).2.2⟩,q,⟨m.1,?_⟩,fun r hr=>hK _ _ (h r hr)⟩;rcases m.2 with t | ⟨g,cap,cur,rfl,h9,h10,h11⟩
  ·exact .inl t
  exact .inr ⟨g,cap,cur,rfl,h9,(hr g (h g rfl)).trans h10,h11⟩
 |seen=>obtain⟨e,c,b,a⟩:=ho;exact⟨e,c,hx.trans b,a⟩
 |own9=>obtain⟨e,c,b,a⟩:=ho;exact⟨e,c,hx.trans b,a⟩
 |flag=>obtain⟨e,c,b,a⟩:=ho;exact⟨e,c,hx.trans b,a⟩
 |row _=>trivial
 |look=>trivial
theorem J.grow (j:J L B K w) (hk:K b=some .nm) {up:zA} {o d:Nat} {i:Option Nat} {A:zA} {n c:Nat} (hB:iP w b 140 #[.pointer up,.map (some o),.map (some d),.map i,(A,n,c)]) {w1:yM} {v':Value} {m:Nat} {ys:List yB} (own9:w1.ownsRow B 9 1 v' m (ys.map Value.string)) (hg:w.grownBy w1 (Value.slice A n c).ownBlock) (hv:v'.ownBlock=(Value.slice A n c).ownBlock\/v'.ownBlock=some w) :
  ∃K',ii K K' w/\J L B K' (w1.setCell (b,4) v')/\R K w (w1.setCell (b,4) v')/\T7 (w1.setCell (b,4) v') b m/\Do K b w (w1.setCell (b,4) v'):=by
 obtain⟨s,M,P,N,I,G,H,xs,F1,F2,F3,F4,F5,F6,F⟩:=j.nmF hk;have f:=F1.symm.trans hB;have V:#[Value.pointer s,.map (some M),.map (some P),.map N,(I,G,H)]=#[Value.pointer up,.map (some o),.map (some d),.map i,(A,n,c)]:=by
  injection f with f
  injection f
 have e1:s=up/\M=o/\P=d/\N=i/\I=A/\G=n/\H=c:=by
  simpa using V
 obtain⟨rfl,rfl,rfl,rfl,rfl,rfl,rfl⟩:=e1;have X:=j.dom b _ hk;have W:some b≠(Value.slice I G H).ownBlock:=fun e=>by
  have:=F b e.symm;rw[hk]at this;cases this
 have Y:iP w1 b 140 #[.pointer s,.map (some M),.map (some P),.map N,(I,G,H)]:=(hg.block b X.2 W).trans hB;have D:iP (w1.setCell (b,4) v') b 140 #[.pointer s,.map (some M),.map (some P),.map N,v']:=by
  have:=Y.jx 4 v';simpa using this
 have O:∀x,x<w.heap.size->some x≠(Value.slice I G H).ownBlock->x≠b->(w1.setCell (b,4) v').heap[x]?=w.heap[x]?:=fun x E u Z=>
  ((xx.set (g:=b) w1 4 v').block x (rO E hg.size) Z).trans (hg.block x E u)
 have C:∀r,v'.ownBlock=some r->r<w1.heap.size/\(r<w.heap.size->K r=some (.row b))/\r≠b:=fun r v=>by
  have E:r<w1:=by
   rcases own9.2 with⟨rfl,-⟩ | ⟨g',cap,cur,rfl,h9,h10,h11⟩
   ·cases v
   cases v;exact (Array.getElem?_eq_some_iff.1 h10).1
  rcases hv with h | h
  ·have u:=F r (h.symm.trans v)
   exact⟨E,fun _=>u,fun e=>by rw[e,hk]at u;cases u⟩
  rw[h]at v;injection v with v
  exact⟨E,fun h=>by omega,by omega⟩
 have t:∀x k,K x=some k->(fun x=>if w.heap.size<=x/\v'.ownBlock=some x then some (Yg.row b) else K x) x=some k:=fun x k e=>by
  have:=(j.dom x k e).2;show (if _ then _ else _)=_
  rw[iV iu];exact e
 refine⟨fun x=>if w<=x/\v'.ownBlock=some x then some (.row b) else K x,fun x h=>iV iu,⟨fun x k e=>?_,fun x k e=>?_,by have:=j.le;have:=hg.size;simpa using (by omega:B<=w1),fun x cs e S=>?_,fun r x e=>?_⟩,⟨hg.os,hg.tape,hg.output,by simpa using hg.size,fun x E u=>O x E (fun e=>by have:=F x e.symm;rw[u]at this;cases this) (fun e=>by rw[e,hk]at u;cases u)⟩,fun cs S=>?_,fun x u=>O x iu (fun e=>by have:=j.qU x b (F x e.symm);omega) iu⟩
 ·have a:(if w<=x/\v'.ownBlock=some x then some (Yg.row b) else K x)=some k:=e
  have a0:=j.le;have hs:=hg.size;by_cases h:w<=x/\v'.ownBlock=some x
  ·have:=(C x h.2).1
   have hz:(w1.setCell (b,4) v').heap.size=w1.heap.size:=by simp
   omega
  rw[iV h]at a;have:=j.dom x k a;have hz:(w1.setCell (b,4) v').heap.size=w1.heap.size:=by simp
  omega
 ·have a:(if w<=x/\v'.ownBlock=some x then some (Yg.row b) else K x)=some k:=e
  by_cases h:w<=x/\v'.ownBlock=some x
  ·rw[iG h]at a
   injection a with a
   subst a;trivial
  rw[iV h]at a;have T:=j.dom x k a;by_cases q:x=b
  ·subst q
   rw[hk]at a;injection a with a
   subst a;refine⟨s,M,P,N,v',m,D,t _ _ F2,t _ _ F3,fun j hj=>t _ _ (F4 j hj),fun p hp=>⟨(F5 p hp).1,(F5 p hp).2.1,t _ _ (F5 p hp).2.2⟩,ys,⟨own9.1,?_⟩,fun r v=>?_⟩
   ·rcases own9.2 with h8 | ⟨g',cap,cur,rfl,h9,h10,h11⟩
    ·exact .inl h8
    exact .inr ⟨g',cap,cur,rfl,h9,((xx.set (g:=x) w1 4 _).block g' (Array.getElem?_eq_some_iff.1 h10).1 (C g' rfl).2.2).trans h10,h11⟩
   show (if w.heap.size<=r/\v'.ownBlock=some r then some (Yg.row x) else K r)=_
   by_cases U:w<=r
   ·rw[iG ⟨U,v⟩]
   rw[iV iu];exact (C r v).2.1 iu
  by_cases z:some x=(Value.slice I G H).ownBlock
  ·have Z:=F x z.symm
   rw[Z]at a;injection a with a
   subst a;trivial
  refine (j.ok x k a).move t (O x T.2 z q) fun y Q=>O y (j.dom y _ Q).2 (fun e=>?_) (fun e=>?_)
  ·have:=F y e.symm
   rw[Q]at this;injection this with this
   injection this with this
   exact q this
  rw[e,hk]at Q;cases Q
 ·have a:(if w<=x/\v'.ownBlock=some x then some (Yg.row b) else K x)=some Yg.nm:=e
  by_cases h:w<=x/\v'.ownBlock=some x
  ·rw[iG h]at a;cases a
  rw[iV h]at a;by_cases q:x=b
  ·subst q
   have g1:=j.geo x _ hk hB;have:=D.symm.trans S;injection this with this
   injection this with this
   rw[<- this];simpa using g1
  exact j.geo x cs a ((O x (j.dom x _ a).2 (fun e=>by have:=F x e.symm;rw[a]at this;cases this) q).symm.trans S)
 ·have a:(if w<=r/\v'.ownBlock=some r then some (Yg.row b) else K r)=some (Yg.row x):=e
  by_cases h:w<=r/\v'.ownBlock=some r
  ·rw[iG h]at a
   injection a with a
   injection a with a
   omega
  rw[iV h]at a;exact j.qU r x a
 have:=D.symm.trans S;injection this with this
 injection this with this
 rw[<- this];rcases own9.2 with⟨rfl,rfl⟩ | ⟨g',cap,cur,rfl,-⟩
 ·exact⟨none,0,0,rfl,js _⟩
 exact⟨_,_,_,rfl,js _⟩
def XN (L:List (Int×yB)) (B:Nat) (K:Yd) (w:yM) (b N:Nat) (l:List Tx) (e:Ending) (w':yM):Prop:=Yj e\/(e=.returned (.tuple #[])/\∃K',ii K K' w.heap.size/\J L B K' w'/\T7 w' b N/\Do K b w w'/\∀x∈l,x.kind=2->((0:Int),x.name)∉L)
theorem WX {x:Tx} (hx:RX D x) (hd:ik D (V K w)):RX w x:=RX.sub (V.sub K w) (hx.below hd.below)
theorem RK (h:qr w g pe (.slice nA nl nc) nd q sq) (j:J L B K w) (hs:K sq=some .seen) (hg:K g=none) (hb:K b=some .nm) (hn:ir 8 (Gy True) D ⟨nA,nc,nl⟩) (hd:ik D (V K w)) {i:Nat} (hi:i<=nl) {lA:zA} {lc:Nat} {ll:List yB} (hl:ir 1 sR D ⟨lA,lc,ll⟩) {k o t v:Int} {s:yB} {A:zA} {c:Nat} {xs:List Tx} (hX:RX D (.mk k o t v s A c xs)) (hB:FY (.mk k o t v s A c xs)) {N:Nat} (hN:T7 w b N) (hM:N+ll<=1000000000) :
  Calls prog 63 #[.pointer g,(i:Nat),.pointer b,.agg #[(lA,ll,lc),k,o,t,v,s,(A,xs,c)]] w fun e w'=>R K w w'/\XN L B K w b (N+ll) (Tx.mk k o t v s A c xs).list e w':=by
 have HL:=iB h;have H:=iB (And.intro hs (And.intro hg hb));have HN:=iB hn;have HD:=iB (And.intro hl (And.intro hX hB));have HH:=iB hd;have M:=iB j;have HI:=iB (And.intro hi hM);have aC:=iB hN;have aw:=hl.len;simp only[]at aw;obtain⟨W0,aQ,a0,B0⟩:∃W,w.alloc (.cells #[(lA,ll,lc),k,o,t,v,s,(A,xs,c)] 79)=W/\ik w W/\iP W w 79 #[(lA,ll,lc),k,o,t,v,s,(A,xs,c)]:=⟨_,rfl,zc,jC ..⟩;have ab:=iB B0;have a:=iB a0;have b0:W0.cell? w=(lA,ll,lc):=by rw[uJ B0];rfl
 have bl:=jo B0;clear h j hs hg hb hn hd hi hl hX hB hN hM B0 a0;go_in;go_wp2_with fail;go_loopw [13] (fun i wr=>∃m:Nat,m<=ll.length/\i=.int .i64 (m:Nat)/\Hid (∃z,ii K z W0.heap.size/\J L B z wr/\R K W0 wr/\T7 wr b (N+m)/\Do K b W0 wr)) (fun i _=>ll.length-(intOf i).toNat)
 ·exact⟨0,by omega,rfl,K,ii.refl _ _,M.out.after a.out,R.refl _ _,aC.out.keep (a.out.below.block b (M.out.dom b _ H.out.2.2).2),Do.refl _ _ _⟩
 case round=>
 obtain⟨m,hm,rfl,HR⟩:=hrel;by_cases ah:m<ll
 ·have ag:(m:Int)<(ll:Int):=iu
  obtain⟨z,n,C,r,n1,Y⟩:=HR.out;have ac:R K w wr:=(R.of a.out).trans (ii.refl K _) r;have aF:w.heap.size<W0:=ab.out.lt;have f:z b=some .nm:=n.at (rO (M.out.dom b _ H.out.2.2).2 a.out.below.size) H.out.2.2;obtain⟨bj,pj,yj,rfl,aG,aR,y0,aM⟩:=(fd lD sj HD.out.1 HH.out ac).part (i:=m) ah;obtain⟨up,oo,d,ip,aK,n',c',aH,N1,F2,F3,F4,F5,F6,F7⟩:=C.nmF f;have L1:qr wr g pe (.slice nA nl nc) nd q sq:=r.blk (mZ (k:=a.out) HL.out) H.out.2.1;have T:=r.blk ab.out (M.out.Tq (js _));simp only[yr]at y0;have HM:Hid (∀(E:Int),E≠0->∀ok U,ik wr U->∀Q:Ending->yM->Prop,_):=iB fun E hE ok U F Q=>LT (Q:=Q) L1 hE F ok
  have HS:Hid (∀s U,ik wr U->_):=iB fun s U F=>T_ (C.after F) f s
  have aE:Hid (∀s U,ik wr U->_):=iB fun s U F=>UT (C.after F) f s
  have HP:=iB (Ue C F3 yj);have HC:Hid (∀U,ik wr U->U.cell? (b,2)=some (.map (some d))/\Le (b+1) U):=iB fun U F=>by
   have h5:=mZ (k:=F) N1;exact⟨by rw[uJ h5];rfl,jo h5⟩
  have p:=iB (And.intro C (And.intro f (And.intro n (And.intro r (And.intro n1 (And.intro Y (And.intro N1 F3)))))));have hA:=iq wr;clear C f n r n1 Y N1 F2 F3 F4 F5 F6 F7 L1 T ac;go_wp2_with fail;refine (HS.out yj _ zc).mono ?_;rintro e w3 ⟨af,r2,rfl,-⟩;have a3:ik wr w3:=by rw[af];infer_instance
  clear af;go_wp2_with fail;refine HM.out 6 iI _ _ a3 _ (fun w4 e hp a6=>?_) fun w4 _ _ a4=>?_
  ·obtain⟨x,y,E,hE,rfl⟩:=hp
   have HE:=iB hE;clear hE;unfold mt;go_wp2_with fail;exact⟨rfl,(R.of a.out).trans (ii.refl K _) (p.out.2.2.2.1.trans p.out.2.2.1 (R.of a6)),.inl ⟨_,_,_,HE.out,rfl⟩⟩
  go_wp2_with fail;refine (aE.out yj _ a4).mono ?_;rintro e w5 ⟨ae,r3,rfl,-⟩;have a5:ik wr w5:=by rw[ae];exact a4
  clear ae;go_wp2_with fail;refine HM.out 7 iI _ _ a5 _ (fun w4 e hp a6=>?_) fun w6 _ _ a6=>?_
  ·obtain⟨x,y,E,hE,rfl⟩:=hp
   have HE:=iB hE;clear hE;unfold mt;go_wp2_with fail;exact⟨rfl,(R.of a.out).trans (ii.refl K _) (p.out.2.2.2.1.trans p.out.2.2.1 (R.of a6)),.inl ⟨_,_,_,HE.out,rfl⟩⟩
  obtain⟨c2,cl⟩:=HC.out w6 a6;obtain⟨O,hO,ai⟩:=HP.out;have aB:=iB ai;clear ai;have Z:ik wr w6:=a6;have j2:=aB.out _ Z;have aa:b≠d:=fun e=>by have:=p.out.2.2.2.2.2.2.2;rw[<- e,p.out.2.1]at this;cases this
  have eb:(w6.putObj d O).heap[b]?=wr.heap[b]?:=(World.putObj_heap_other aa).trans (Z.below.block b (p.out.1.dom b _ p.out.2.1).2);have n2:=T7.keep p.out.2.2.2.2.1 eb;have r2:R z wr (w6.putObj d O):=(R.of Z).trans (ii.refl z _) (R.put (by rw[p.out.2.2.2.2.2.2.2];simp) O);have aq:d=b-1/\2<=b:=by
   have g1:=p.out.1.geo b _ p.out.2.1 p.out.2.2.2.2.2.2.1;exact⟨by simpa using g1.2.2,g1.1⟩
  have ar:=(p.out.1.dom b _ p.out.2.1).2;have o2:Do z b wr (w6.putObj d O):=fun x hx=>(World.putObj_heap_other iu).trans (Z.below.block x iu)
  clear aq ar;obtain⟨U1,ax⟩:=jt (w6.putObj d O);rw[ax]at j2 n2 r2 o2;obtain⟨aI,aJ,d2,aL,A2,S,G,a',N2,-,-,-,-,P,-⟩:=j2.nmF p.out.2.1;obtain⟨A3,m3,cc3,e3,ao⟩:=n2 _ N2;have ay:A2=A3/\S=m3/\G=cc3:=by simpa using e3
  obtain⟨rfl,rfl,rfl⟩:=ay;have aO:S+1<=1000000001:=by have:=HI.out.2;omega
  have aA:Hid (∀U,ik U1 U->U.ownsRow B 9 1 (.slice A2 S G) S (a'.map Value.string)):=iB fun U F=>⟨P.1,P.2.imp id fun⟨g',ak,aj,h1,h2,h3,h4⟩=>⟨g',ak,aj,h1,h2,(F.below.block g' (Array.getElem?_eq_some_iff.1 h3).1).trans h3,h4⟩⟩
  have aD:Hid (∀U,ik U1 U->∀X I,I.ownsRow B 9 1 X (S+1) (a'.map Value.string++[.string yj])->U.grownBy I (Value.slice A2 S G).ownBlock->(X.ownBlock=(Value.slice A2 S G).ownBlock\/X.ownBlock=some U.heap.size)->(I.cell? (b,4)=(A2,S,G)/\I.frozen? (b,4)=false/\Le (b+1) I)/\∃z,ii K z W0.heap.size/\J L B z (I.setCell (b,4) X)/\R K W0 (I.setCell (b,4) X)/\T7 (I.setCell (b,4) X) b (N+(m+1))/\Do K b W0 (I.setCell (b,4) X)):=iB fun U F X I ow gr hv=>by
   obtain⟨C,f,n,r,-,Y,-,-⟩:=p.out;have jU:=j2.after F;have NU:=mZ (k:=F) N2;have av:some b≠(Value.slice A2 S G).ownBlock:=fun e=>by
    obtain⟨_,_,_,_,_,_,_,_,M1,-,-,-,-,-,M7⟩:=jU.nmF f;have e9:=M1.symm.trans NU;injection e9 with e9
    injection e9 with e9
    have e8:=nQ (fun x:Array Value=>x[4]?) e9;simp only[List.getElem?_toArray,List.getElem?_cons_succ,List.getElem?_cons_zero,Option.some.injEq]at e8;rw[<- e8]at e;have:=M7 b e.symm;rw[f]at this;cases this
   have N3:iP I b 140 _:=(gr.block b (jU.dom b _ f).2 av).trans NU;obtain⟨K2,k2,jj,rr,nn,oo⟩:=jU.grow f NU (ys:=a'++[yj]) (by simpa using ow) gr hv;have s1:=r.size;have s2:=r2.size;have s3:=F.below.size;have kU:ii z K2 wr.heap.size:=fun x hx=>k2 x iu
   refine⟨⟨by rw[uJ N3];rfl,N3.frozen 4,N3.is_le⟩,K2,n.trans k2 iu,jj,r.trans n ((r2.trans (ii.refl z _) (R.of F)).trans (ii.refl z _) rr),nn.mono iu,Do.trans (M.out.after a.out) Y n (Do.trans C o2 (ii.refl z _) (Do.trans j2 (Do.of j2 f F) (ii.refl z _) oo))⟩
  have c4:U1.cell? (b,4)=(A2,S,G):=by rw[uJ N2];rfl
  have az:=jo N2;have b4:B<=U1.heap.size:=j2.le;clear j2 n2 r2 o2 N2 P e3 ao eb;obtain⟨al,a_,a8,a2,a1⟩:=info_parts UJ;go_wp2_with (at_builtin;refine ka _ rfl (.tmp 37) (.tmp 39) 55 rfl B 9 al _ 1 _ underlying55 a_ a8 a2 a1 rfl iI _ _ _ rfl (aA.out _ zc) _ _ 1 1 [yj] rfl (ki rfl _ _ _ rfl 1 1 rfl) (by intro u hu;simp only[uW,TC,or_false]at hu;subst hu;rfl) (by unfold maxLen;omega) iu (by rw[iH];omega) ?_)
  intro X I ow gr hv;obtain⟨A5,c5,rfl⟩:∃(A5:zA) (c5:Nat),X=.slice A5 (S+1) c5:=by
   rcases ow.2 with⟨-,h⟩ | ⟨g',ak,aj,rfl,-⟩
   ·omega
   exact⟨_,_,rfl⟩
  obtain⟨⟨f1,f2,f3⟩,a9⟩:=aD.out _ zc _ I ow gr (by simpa using hv);have HV:=iB a9;clear a9 ow gr hv a_ a8 a2 a1 c4 az;go_wp2_with fail;exact⟨⟨m+1,ah,rfl,HV.out⟩,by simp only[intOf];omega⟩
 have ag:¬(m:Int)<(ll:Int):=iu
 obtain⟨z,n,C,r,n1,Y⟩:=HR.out;have d1:ik D (V z wr):=ij HH.out (ij ((R.of a.out).v (ii.refl K _)) (r.v n));have aa:=M.out.dom b _ H.out.2.2;have am:=M.out.dom sq _ H.out.1;have an:=a.out.below.size;have T:=r.blk ab.out (M.out.Tq (js _));have HX:=iB (Ug (ms (b:=b) (r.blk (mZ (k:=a.out) HL.out) H.out.2.1) C (n.at iu H.out.1) (n.at iu H.out.2.2) HN.out d1 HI.out.1 (WX HD.out.2.1 d1) HD.out.2.2 (ll.length:Nat)));have p:=iB (And.intro n (And.intro C (And.intro r (And.intro n1 Y))));have q0:wr.cell? w=(lA,ll,lc):=by rw[uJ T];rfl
 have q1:wr.cell? (w,1)=k:=by rw[uJ T];rfl
 have q2:wr.cell? (w,2)=o:=by rw[uJ T];rfl
 have q3:wr.cell? (w,3)=t:=by rw[uJ T];rfl
 have q4:wr.cell? (w,4)=v:=by rw[uJ T];rfl
 have q5:wr.cell? (w,5)=s:=by rw[uJ T];rfl
 have q6:wr.cell? (w,6)=(A,xs,c):=by rw[uJ T];rfl
 have ql:=jo T;clear n C r n1 Y d1 aa am an T;go_wp2_with fail;refine (HX.out).mono ?_;rintro e w7 ⟨Z,hp⟩;obtain⟨n,C,r,n1,Y⟩:=p.out;have aP:m=ll:=iu
 have aN:=r.size;have R1:Hid (R K w w7):=(R.of a.out).trans (ii.refl K _) (r.trans n (R.of Z));have J1:Hid (∀h:∀x∈(Tx.mk k o t v s A c xs).list,x.kind=2->((0:Int),x.name)∉L,XN L B K w b (N+ll) (Tx.mk k o t v s A c xs).list (.returned (.tuple #[])) w7):=iB fun h=>.inr ⟨rfl,z,fun x hx=>n x (rO hx a.out.below.size),C.after Z,(n1.keep (Z.below.block b (C.dom b _ (n.at (rO (M.out.dom b _ H.out.2.2).2 a.out.below.size) H.out.2.2)).2)).mono iu,Do.trans M.out (Do.of M.out H.out.2.2 a.out) (ii.refl K _) (Do.trans (M.out.after a.out) Y n (Do.of C (n.at (rO (M.out.dom b _ H.out.2.2).2 a.out.below.size) H.out.2.2) Z)),h⟩
 clear n C r n1 Y;rcases hp with⟨x,y,E,hE,rfl⟩ | ⟨rfl,hp⟩
 ·have HE:=iB hE
  clear hE;unfold mt;go_wp2_with fail;exact⟨rfl,R1.out,.inl ⟨_,_,_,HE.out,rfl⟩⟩
 have HP:=iB (J1.out hp);clear hp;go_wp2;go_end0;exact⟨R1.out,HP.out⟩
def Ul (L:List (Int×yB)) (e:Tx):Prop:=∀x∈e.list,x.kind=2->((0:Int),x.name)∉L
theorem BT (h:qr w g pe (.slice nA nl nc) nd q sq) (j:J L B K w) (hs:K sq=some .seen) (hb:K b=some .nm) (hn:ir 8 (Gy True) D ⟨nA,nc,nl⟩) (hd:ik D (V K w)) {i:Nat} (hi:i<=nl) {x:nB ma} (hx:ir 8 (Eo True) D x) :
  Calls prog 140 #[.pointer g,(i:Nat),.pointer (some b),.slice x.A x.l x.c] w fun e w'=>ik w w'/\(Yj e\/(e=.returned (.tuple #[])/\∀t∈x.l,Ul L t.cond)):=by
 obtain⟨A1,c1,l⟩:=x;have XX:=iB (fd As Gu hx hd (R.refl K w));have C:=hx.len;simp only[]at C;have I:Hid (∀(k o t v:Int) (s:yB) (A:zA) (c:Nat) (f:List Tx) (U:yM),ik w U->RX U (.mk k o t v s A c f)->FY (.mk k o t v s A c f)->_):=iB fun k o t v s A c f U F hX hB=>Ug (ms (b:=b) (mZ (k:=F) h) (j.after F) hs hb hn (ij hd ((R.of F).v (ii.refl K _))) hi hX hB 1)
 clear h j hs hb hn hd hi hx;go_in;go_wp2_with fail;go_loopw [12] (fun i wr=>∃k:Nat,k<=l.length/\i=.int .i64 (k:Nat)/\ik w wr/\Hid (∀d∈l.take k,Ul L d.cond)) (fun i _=>l.length-(intOf i).toNat)
 ·exact⟨0,by omega,rfl,iq w,fun d hd=>by cases hd⟩
 case round=>
 obtain⟨m,hm,rfl,G,Q⟩:=hrel;by_cases p:m<l
 ·have u:(m:Int)<(l:Int):=iu
  obtain⟨bj,pj,yj,rfl,N,H,a⟩:=((XX.out.trs wr).part (i:=m) p);obtain⟨⟨k,o,t,v,s,A,c,f⟩,O,M⟩:=yj;obtain⟨z0,z1,z2,Z,Y,X⟩:=a.six;have T:=a.c6;have S:=a.c7;have HR:=iB (And.intro a.co a.tb);simp only[Tx.kind,Tx.op,Tx.ty,Tx.va,Tx.name,Tx.ad,Tx.args,Tx.cap]at z0 z1 z2 Z Y X T S;obtain⟨r,a0,z,n⟩:∃W,wr.alloc (.cells #[k,o,t,v,s,(A,f,c),O,M] 223)=W/\ik wr W/\iP W wr 223 #[k,o,t,v,s,(A,f,c),O,M]:=⟨_,rfl,zc,jC ..⟩;have d0:r.cell? wr=k:=by rw[uJ n];rfl
  have d1:r.cell? (wr,1)=o:=by rw[uJ n];rfl
  have d2:r.cell? (wr,2)=t:=by rw[uJ n];rfl
  have d3:r.cell? (wr,3)=v:=by rw[uJ n];rfl
  have d4:r.cell? (wr,4)=s:=by rw[uJ n];rfl
  have d5:r.cell? (wr,5)=(A,f,c):=by rw[uJ n];rfl
  have dl:=jo n;have HX:=iB (I.out k o t v s A c f r (ij G z) (RX.below z.below a.co) a.tb);have hA:=iB (ij G z);clear a n z;go_wp2_with fail;refine (HX.out).mono ?_;rintro e w7 ⟨a7,hp⟩;have P:ik w w7:=ij hA.out a7;rcases hp with⟨x,y,E,hE,rfl⟩ | ⟨rfl,hp⟩
  ·have I:=iB hE
   clear hE;unfold mt;go_wp2_with fail;exact⟨rfl,P,.inl ⟨_,_,_,I.out,rfl⟩⟩
  have HP:=iB hp;clear hp;go_wp2_with fail;exact⟨⟨m+1,p,rfl,P,lm Q.out H.out HP.out⟩,by simp only[intOf];omega⟩
 have u:¬(m:Int)<(l:Int):=iu
 go_wp2;go_end0;exact⟨G,.inr ⟨rfl,li Q.out p⟩⟩
end
section
variable {w w' D:yM}
def Uk (w:yM) (b o:Nat) (s:yB):Prop:=w.cell? (b,o)=s
theorem ro:tO Uk:=fun w w' b o y hb hlt h=>(mH hb hlt).trans h
theorem Fr {A:zA} {c:Nat} {l:List yB} (hx:ir 1 Uk w ⟨A,c,l⟩) (g:Nat) (lb:Array Value) (eg:∀args w,(callFunc g args).run prog w=.ok (.enter g args) w)
  (hp:∀(U:World) (z:ByteArray),ik w U->Calls prog g (#[.string z]++lb) U fun e w'=>Vu (fun _=>True) e/\ik U w') :
  Calls prog 166 #[(A,l.length,c),.func (.func g) #[] lb] w fun e w'=>(∃r:Int,e=.returned (.int .i64 r)/\-1<=r/\r<l.length)/\ik w w':=by
 have hlen:=hx.len;have hle_:=hx.le;have hcap_:=hx.cap;simp only[]at hlen hle_ hcap_;have HP:=iB hp;have XX:=iB hx;clear hp hx;go_in;go_wp2_with fail;go_loopw [8] (fun i wr=>∃k:Nat,k<=l.length/\i=.int .i64 (k:Nat)/\ik w wr) (fun i _=>l.length-(intOf i).toNat)
 ·exact⟨0,by omega,rfl,iq w⟩
 case round=>
 obtain⟨k,hk,rfl,ar⟩:=hrel;by_cases hlt:k<l.length
 ·have hltI:(k:Int)<(l.length:Int):=iu
  obtain⟨bj,pj,yj,rfl,hlej,HYj,y0⟩:=(XX.out.below ro ar.below).part (i:=k) hlt;replace y0:wr.cell? (bj,pj+k)=yj:=by simpa[Uk] using y0
  have HC:=iB (HP.out wr yj ar);go_wp2_with (go_at_fn g;refine HC.out.mono ?_;rintro e w2 ⟨⟨bb,rfl,-⟩,a2⟩;have a3:ik w w2:=ij ar a2;clear a2)
  all_goals first
   |(go_ret;exact⟨⟨_,rfl,by omega,by omega⟩,a3⟩)
   |(refine⟨⟨k+1,by omega,by go_num,a3⟩,?_⟩;simp[intOf];omega)
 have hltI:¬(k:Int)<(l.length:Int):=iu
 go_wp2;go_ret;exact⟨⟨_,rfl,by omega,by omega⟩,ar⟩
theorem T' {A:zA} {c:Nat} {l:List yB} (hx:ir 1 Uk w ⟨A,c,l⟩) (g:Nat) (lb:Array Value) (eg:∀args w,(callFunc g args).run prog w=.ok (.enter g args) w)
  (hp:∀(U:World) (z:ByteArray),ik w U->Calls prog g (#[.string z]++lb) U fun e w'=>Vu (fun _=>True) e/\ik U w') :
  Calls prog 143 #[(A,l,c),.func (.func g) #[] lb] w fun e w'=>Vu (fun _=>True) e/\ik w w':=by
 have HC:=iB (Fr hx g lb eg hp);clear hx hp;go_in;go_wp2_with fail;refine HC.out.mono ?_;rintro e w2 ⟨⟨r,rfl,hr,hr2⟩,a2⟩;clear HC;go_wp2;go_ret;exact⟨⟨_,rfl,trivial⟩,a2⟩
theorem U4 {A:zA} {c:Nat} {l:List yB} (hx:ir 1 Uk w ⟨A,c,l⟩) (s:yB) :
  Calls prog 167 #[(A,l,c),s] w fun e w'=>(∃r:Int,e=.returned (.int .i64 r)/\-1<=r/\r<l.length)/\ik w w':=by
 have d:=hx.len;have f:=hx.le;have a:=hx.cap;simp only[]at d f a;have q:=iB hx;clear hx;go_in;go_wp2_with fail;go_loopw [8] (fun i wr=>∃k:Nat,k<=l.length/\i=.int .i64 (k:Nat)/\ik w wr) (fun i _=>l.length-(intOf i).toNat)
 ·exact⟨0,by omega,rfl,iq w⟩
 case round=>
 obtain⟨k,u,rfl,g⟩:=hrel;by_cases h:k<l
 ·have b:(k:Int)<(l:Int):=iu
  obtain⟨p,o,n,rfl,m,t,j⟩:=(q.out.below ro g.below).part (i:=k) h;replace j:wr.cell? (p,o+k)=n:=by simpa[Uk] using j
  go_wp2_with fail;all_goals first
   |(go_ret;exact⟨⟨_,rfl,by omega,by omega⟩,g⟩)
   |(refine⟨⟨k+1,by omega,by go_num,g⟩,?_⟩;simp[intOf];omega)
 have b:¬(k:Int)<(l:Int):=iu
 go_wp2;go_ret;exact⟨⟨_,rfl,by omega,by omega⟩,g⟩
theorem Um {A:zA} {c:Nat} {l:List yB} (hx:ir 1 Uk w ⟨A,c,l⟩) (s:yB) :
  Calls prog 145 #[(A,l,c),s] w fun e w'=>Vu (fun _=>True) e/\ik w w':=by
 have a:=iB (U4 hx s);clear hx;go_in;go_wp2_with fail;refine a.out.mono ?_;rintro e f ⟨⟨r,rfl,g,b⟩,d⟩;clear a;go_wp2;go_ret;exact⟨⟨_,rfl,trivial⟩,d⟩
theorem Vb {b:Nat} {A:zA} {c:Nat} {l:List yB} (hb:iP w b 55 #[(A,l,c)]) (hx:ir 1 Uk w ⟨A,c,l⟩) (s:yB) :
  Calls prog 144 #[s,.pointer (some b)] w fun e w'=>Vu (fun _=>True) e/\ik w w':=by
 have a:=iB (Um hx s);have h:w.cell? b=(A,l,c):=by rw[uJ hb];rfl
 have g:=jo hb;clear hx hb;go_in;go_wp2_with fail;refine a.out.mono ?_;rintro e f ⟨⟨r,rfl,-⟩,d⟩;clear a;go_wp2;go_ret;exact⟨⟨_,rfl,trivial⟩,d⟩
theorem Ut {A:zA} {c:Nat} {l:List yB} (hx:ir 1 Uk w ⟨A,c,l⟩) {A2:zA} {c2:Nat} {l2:List yB} (hx2:ir 1 Uk w ⟨A2,c2,l2⟩) :
  Calls prog 105 #[(A,l,c),(A2,l2,c2)] w fun e w'=>Vu (fun _=>True) e/\ik w w':=by
 obtain⟨o,t,a,d⟩:∃W,w.alloc (.cells #[(A2,l2,c2)] 55)=W/\ik w W/\iP W w 55 #[(A2,l2,c2)]:=⟨_,rfl,zc,jC ..⟩;have m:=hx.below ro a.below;have b:=iB (fun U (g:ik o U)=>T' (m.below ro g.below) 144 #[.pointer (some w.heap.size)] (enters_of func144 kp rfl) fun x z j=>Vb (mZ (k:=ij g j) d) (hx2.below ro (ij a (ij g j)).below) z);have v:o.cell? w=(A2,l2,c2):=by rw[uJ d];rfl
 have u:=jo d;have i:=iB a;have q:=hx.len;have p:=hx2.len;simp only[]at q p;clear hx hx2 m d a;by_cases s:l.length=l2
 ·simp only[s]at b
  have f:(l:Int)=(l2:Int):=iu
  go_in;go_wp2_with fail;refine (b.out _ (by infer_instance)).mono ?_;rintro e w2 ⟨⟨r,rfl,-⟩,n⟩;have h:ik w w2:=ij i.out n;clear b n;go_wp2;go_ret;exact⟨⟨_,rfl,trivial⟩,h⟩
 have f:¬(l:Int)=(l2:Int):=iu
 clear b;have h:=i.out;go_in;go_wp2;go_ret;exact⟨⟨_,rfl,trivial⟩,by first | exact h | infer_instance⟩
end
def Ya (w:yM) (g c n:Nat):Prop:=∃cur:Array Value,iP w g 9 cur/\cur.size=c/\∀k,k<n->∃s:yB,cur[k]?=s
section
variable {w w' D:yM} {g c n:Nat}
theorem Ya.after (h:Ya w g c n) (a:ik w w'):Ya w' g c n:=by
 obtain⟨b,f,e,d⟩:=h;exact⟨b,mZ (k:=a) f,e,d⟩
theorem Ya.set (h:Ya w g c n) (i:Nat) (s:yB):Ya (w.setCell (g,i) (.string s)) g c n:=by
 obtain⟨o,m,j,f⟩:=h;refine⟨_,m.jx i (.string s),by simpa using j,fun k e=>?_⟩;obtain⟨t,b⟩:=f k e;by_cases d:i=k
 ·subst d
  have a:=(Array.getElem?_eq_some_iff.1 b).1;exact⟨s,by simp[a]⟩
 exact⟨t,by rw[Array.getElem?_setIfInBounds_ne d];exact b⟩
theorem Up {g i:Nat} {v:Value} (h:w.grownBy w' (some g)):w.grownBy (w'.setCell (g,i) v) (some g):=
 ⟨h.os,h.tape,h.output,by simpa using h.size,fun k hk hne=>((xx.set (g:=g) w' i v).block k (rO hk h.size) (fun e=>hne (by rw[e]))).trans (h.block k hk hne)⟩
theorem Id {r:Option Nat} {w'':yM} (h:w.grownBy w' r) (a:ik w' w''):w.grownBy w'' r:=
 ⟨a.below.os.trans h.os,a.below.tape.trans h.tape,a.below.output.trans h.output,jW h.size a.below.size,fun k hk hne=>(a.below.block k (rO hk h.size)).trans (h.block k hk hne)⟩
theorem Ya.clear (k:Nat):∀(i:Nat) {w':yM},w.grownBy w' (some g)->Ya w' g c n->w.grownBy (w'.setCells g i (List.replicate k (.string ⟨#[]⟩))) (some g)/\Ya (w'.setCells g i (List.replicate k (.string ⟨#[]⟩))) g c n:=by
 induction k with
 |zero=>intro i w' b a;exact⟨b,a⟩
 |succ k ih=>intro i w' b a;exact ih (i+1) (Up b) (a.set i _)
theorem Ya.row {m:Nat} (h:Ya w g c n) (hm:m<=n) (hn:n<=c) (hc:c<=9223372036854775807) (h47:n<=140737488355328):∃ys:List yB,ys=m/\ir 1 Uk w ⟨some g,c,ys⟩:=by
 obtain⟨j,o,r,q⟩:=h;have:∀m,m<=n->∃ys:List yB,ys.length=m/\∀(k:Nat) (y:yB),ys[k]?=some y->j[k]?=some (Value.string y):=by
  intro m;induction m with
  |zero=>intro _;exact⟨[],rfl,fun k y h=>by simp at h⟩
  |succ m ih=>
  intro h;obtain⟨ys,b,f⟩:=ih iu;obtain⟨s,p⟩:=q m iu;refine⟨ys++[s],by simp[b],fun k y a=>?_⟩;rcases qa k ys with e | e
  ·rw[wk e]at a
   exact f k y a
  rw[xK e]at a;have d:k-ys=0:=by
   rcases Nat.eq_zero_or_pos (k-ys.length) with h | h
   ·exact h
   rw[LH (by simp;omega)]at a;cases a
  rw[d]at a;simp at a;subst a;rw[show k=m by omega];exact p
 obtain⟨ys,b,f⟩:=this m hm;refine⟨ys,b,⟨.inr ⟨g,0,rfl,o.lt,fun i y a=>?_⟩,by simp only[b];omega,hc,by simp only[b];omega⟩⟩;show w.cell? _=_
 rw[uJ o];simpa using f i y a
theorem UL (h:Ya w g c n) (hn:n<=c) (hc:c<=9223372036854775807) (h47:n<=1000000000) (fg:Nat) (lb:Array Value) (eg:∀args w,(callFunc fg args).run prog w=.ok (.enter fg args) w)
  (hp:∀(U:World) (z:ByteArray),w.grownBy U (some g)->Calls prog fg (#[.string z]++lb) U fun e w'=>Vu (fun _=>True) e/\ik U w') :
  Calls prog 141 #[.slice (some g) n c,.func (.func fg) #[] lb] w fun e w'=>w.grownBy w' (some g)/\∃m,m<=n/\e=.returned (.slice g m c)/\Ya w' g c n:=by
 obtain⟨ys,hys,hrow⟩:=h.row (js n) hn hc iu;have HI:=iB (Fr hrow fg lb eg fun U z hU=>hp U z (Id (World.grownBy.refl w _) hU));rw[hys]at HI;have HP:=iB hp;have HS:=iB h;clear hp h hrow hys;go_in;go_wp2_with fail;refine HI.out.mono ?_;rintro e w1 ⟨⟨r,rfl,hr,hr2⟩,a1⟩;have G1:=Id (World.grownBy.refl w (some g)) a1;have S1:=HS.out.after a1;have HG:=iB (And.intro G1 S1);clear HI a1 G1 S1;by_cases hm1:r=-1
 ·subst hm1
  go_wp2;go_ret;exact⟨HG.out.1,n,js n,rfl,HG.out.2⟩
 obtain⟨i0,rfl⟩:∃i:Nat,r=(i:Int):=⟨r.toNat,by omega⟩;have hi0:i0<n:=iu
 clear hr hr2;go_wp2_with fail;go_loopw [5,6] (fun v5 v6 wr=>∃i j:Nat,v5=.int .i64 (i:Nat)/\v6=.int .i64 (j:Nat)/\i<j/\j<=n/\Hid (w.grownBy wr (some g)/\Ya wr g c n)) (fun _ v6 _=>n-(intOf v6).toNat)
 ·exact⟨i0,i0+1,rfl,by go_num,by omega,by omega,HG.out⟩
 case round=>
 obtain⟨i,j,rfl,rfl,hij,hj,HR⟩:=hrel;obtain⟨cur,B1,B2,B3⟩:=HR.out.2;have lr:=jo B1;by_cases hlt:j<n
 ·have hltI:(j:Int)<(n:Int):=iu
  obtain⟨s,hs⟩:=B3 j hlt;obtain⟨s2,hs2⟩:=B3 i iu;have y0:wr.cell? (g,j)=some (.string s):=by rw[uJ B1];exact hs
  have HC:=iB (HP.out wr s HR.out.1);have HA:Hid (∀U,ik wr U->(U.cell? (g,i)=some (.string s2)/\U.frozen? (g,i)=false/\Le (g+1) U)/\(w.grownBy U (some g)/\Ya U g c n)/\(w.grownBy (U.setCell (g,i) (.string s)) (some g)/\Ya (U.setCell (g,i) (.string s)) g c n)):=iB fun U hU=>by
   have B4:=mZ (k:=hU) B1;have g4:=Id HR.out.1 hU;have s4:=HR.out.2.after hU;exact⟨⟨by rw[uJ B4];exact hs2,B4.frozen i,B4.is_le⟩,⟨g4,s4⟩,Up g4,s4.set i s⟩
  clear B1 B2 B3 hs hs2;go_wp2_with (go_at_fn fg;refine HC.out.mono ?_;rintro e w2 ⟨⟨bb,rfl,-⟩,a2⟩;obtain⟨⟨f1,f2,f3⟩,hg1,hg2⟩:=HA.out w2 a2;have HG1:=iB hg1;have HG2:=iB hg2;clear a2 hg1 hg2)
  all_goals
   go_roundw
   case rel=>first | exact⟨_,_,_,_,_,_,_,_,_,_,_,_,_,_,_,_,_,_,_,_,_,_,_,⟨i+1,j+1,by go_num,by go_num,by omega,by omega,HG2.out⟩,rfl⟩ | exact⟨_,_,_,_,_,_,_,_,_,_,_,_,_,_,_,_,_,_,_,_,_,_,_,⟨i,j+1,rfl,by go_num,by omega,by omega,HG1.out⟩,rfl⟩
   case measure=>simp[intOf];omega
 have hltI:¬(j:Int)<(n:Int):=iu
 have hjn:j=n:=iu
 have hcl:∀ty,(Builtin.clear_ #[55] ty #[.slice (g,i) (n-i) (c-i)]).run prog wr=.ok (.tuple #[]) (wr.setCells g i (List.replicate (n-i) (.string ⟨#[]⟩))):=fun ty=>Lib.run_clear_slice wr 55 9 ty (.string ⟨#[]⟩) underlying55 (fun _=>by kernel_rfl) rfl rfl g i (n-i) (c-i) iu (fun k hk=>by
  obtain⟨s,hs⟩:=B3 (i+k) iu;rw[uJ B1,hs];rfl) (fun k hk=>B1.frozen _)
 have HE:=iB (Ya.clear (n-i) i HR.out.1 HR.out.2);clear B1 B2 B3;go_wp2;go_ret;exact⟨HE.out.1,i,by omega,rfl,HE.out.2⟩
end
section
variable {L:List (Int×yB)} {U:yM} {b o q:Nat} {es:Array MapEntry} {c:Nat}
theorem UN (h2:Vt L es.toList) (s:yB):∃r:Bool,∀(U:yM) (o:Nat),U.heap[o]?=some (.map es c)->(Instr.lookup 138 (.map (some o)) (.string s) false).run prog U=.ok (.bool r) U:=by
 obtain⟨v,ok,d,i,g⟩:=ww.look (k:=.string s) (z:=.bool false) underlying138 (fun _=>by kernel_rfl) (Fd s es.toList fun e a=>(h2 e a).imp fun t h=>h.choose_spec.1) (fun _=>by kernel_rfl) false;cases ok with
 |true=>
  obtain⟨e,a,f,rfl⟩:=i rfl;obtain⟨t,v,n,j,m⟩:=h2 e a;exact⟨v,fun U o b=>by rw[d o c U b,j];rfl⟩
 |false=>
 obtain⟨rfl,-⟩:=g rfl;exact⟨false,fun U o b=>d o c U b⟩
theorem T9 {up d i:Value} {v:Value} (h9:iP U q 136 #[.pointer b]) (hb:iP U b 140 #[up,.map (some o),d,i,v]) (ho:U.heap[o]?=some (.map es c)) (h2:Vt L es.toList) (s:yB) :
  Calls prog 142 #[s,.pointer (some q)] U fun e w'=>Vu (fun _=>True) e/\ik U w':=by
 obtain⟨r,a⟩:=UN (c:=c) h2 s;have g:=a U o ho;have k:U.cell? q=some (.pointer b):=by rw[uJ h9];rfl
 have j:U.cell? (b,1)=some (.map (some o)):=by rw[uJ hb];rfl
 have h:=jo h9;have f:=jo hb;clear a ho h2 hb h9;go_in;go_wp2;go_ret;exact⟨⟨r,rfl,trivial⟩,iq U⟩
end
section
variable {w U:yM} {q:Nat}
theorem VM {nm:yB} {v1 v2 v3 v4 v5:Value} (hq:iP U q 184 #[nm,v1,v2,v3,v4,v5]) (s:yB) (u1 u2 u3 u4 u5:Value) :
  Calls prog 103 #[.agg #[s,u1,u2,u3,u4,u5],.pointer (some q)] U fun e w'=>Vu (fun r=>r=false->s≠nm) e/\ik U w':=by
 obtain⟨c,d,a,b⟩:∃W,U.alloc (.cells #[s,u1,u2,u3,u4,u5] 184)=W/\ik U W/\iP W U 184 #[s,u1,u2,u3,u4,u5]:=⟨_,rfl,zc,jC ..⟩;have j:c.cell? U=s:=by rw[uJ b];rfl
 have g:c.cell? q=nm:=by rw[uJ (mZ (k:=a) hq)];rfl
 have i:=jo b;have f:=jo (mZ (k:=a) hq);clear b hq;go_in;go_wp2;go_ret;refine⟨⟨_,rfl,?_⟩,by first | exact a | infer_instance⟩;intro h e;subst e;simp at h
theorem Uv {nm:yB} {v1 v2 v3 v4 v5:Value} (hq:iP w q 184 #[nm,v1,v2,v3,v4,v5]) {A:zA} {c:Nat} {l:List StT} (hx:ir 6 (OZ True) w ⟨A,c,l⟩) :
  Calls prog 139 #[.slice A l c,.func (.func 103) #[] #[.pointer (some q)]] w fun e w'=>(∃r:Int,e=.returned (.int .i64 r)/\(decide (0<=r)=false->∀x∈l,x.name≠nm))/\ik w w':=by
 have g:=hx.len;have j:=hx.le;have b:=hx.cap;simp only[]at g j b;have P:Hid (∀U,ik w U->∀(s:yB) (z y v u t:Value),_):=iB fun U M s z y v u t=>VM (mZ (k:=M) hq) s z y v u t
 have O:=iB hx;have T:=enters_of func103 kp rfl;clear hq hx;go_in;go_wp2_with fail;go_loopw [8] (fun i wr=>∃k:Nat,k<=l.length/\i=.int .i64 (k:Nat)/\ik w wr/\Hid (∀x∈l.take k,x.name≠nm)) (fun i _=>l.length-(intOf i).toNat)
 ·exact⟨0,by omega,rfl,iq w,fun x hx=>by cases hx⟩
 case round=>
 obtain⟨k,S,rfl,o,E⟩:=hrel;by_cases f:k<l
 ·have d:(k:Int)<(l:Int):=iu
  obtain⟨V,R,a,rfl,B,p,n⟩:=(O.out.below Lw o.below).part (i:=k) f;obtain⟨L,K,J,I,H,G⟩:=n.1;have F:=iB (P.out wr o a.name (.slice a.locals.A a.locals.l a.locals.c) (.slice a.eqs.A a.eqs.l a.eqs.c) (.slice a.ad a.autos a.cap) (.slice a.unl.A a.unl.l a.unl.c) (.slice a.unt.A a.unt.l a.unt.c));clear n;go_wp2_with fail;refine F.out.mono ?_;rintro e w2 ⟨⟨N,rfl,m⟩,D⟩;have C:ik w w2:=ij o D;have Q:=iB m;clear D m F L K J I H G;cases N with
  |true=>
   go_wp2;go_ret;exact⟨⟨_,rfl,fun h=>by simp at h⟩,C⟩
  |false=>
  go_wp2_with fail;exact⟨⟨k+1,by omega,by go_num,C,lm E.out p.out (Q.out trivial)⟩,by simp only[intOf];omega⟩
 have d:¬(k:Int)<(l:Int):=iu
 go_wp2;go_ret;exact⟨⟨_,rfl,fun _=>li E.out f⟩,o⟩
theorem T6 {nm:yB} {v1 v2 v3 v4 v5:Value} (hq:iP w q 184 #[nm,v1,v2,v3,v4,v5]) {A:zA} {c:Nat} {l:List StT} (hx:ir 6 (OZ True) w ⟨A,c,l⟩) :
  Calls prog 102 #[.slice A l c,.func (.func 103) #[] #[.pointer (some q)]] w fun e w'=>Vu (fun r=>r=false->∀x∈l,x.name≠nm) e/\ik w w':=by
 have b:=iB (Uv hq hx);clear hx hq;go_in;go_wp2_with fail;refine b.out.mono ?_;rintro e g ⟨⟨r,rfl,a⟩,d⟩;have f:=iB a;clear b a;go_wp2;go_ret;exact⟨⟨_,rfl,f.out⟩,d⟩
end
theorem rt:Ai Uk:=fun W w b o y hw h=>hw.cell _ _ _ h
mutual
def UG (L:List (Int×yB)):AuT->Prop
 |.mk A c l=>(l.map StT.name).Nodup/\TO L l
def Eq (L:List (Int×yB)):List AuT->Prop
 |[]=>True
 |x::l=>UG L x/\Eq L l
def PP (L:List (Int×yB)):StT->Prop
 |.mk n l e A c a u v=>(∀q∈e.l,Ul L q.right)/\Eq L a/\(∀t∈u.l,Ul L t.cond)/\∀t∈v.l,Ul L t.cond
def TO (L:List (Int×yB)):List StT->Prop
 |[]=>True
 |x::l=>PP L x/\TO L l
end
def Uj:List oX->Nat
 |[]=>0
 |q::l=>q.left.l.length+Uj l
mutual
def Xk:AuT->Nat
 |.mk A c l=>TH l
def ws:List AuT->Nat
 |[]=>0
 |x::l=>Xk x+ws l
def WF:StT->Nat
 |.mk n l e A c a u v=>Uj e.l+ws a
def TH:List StT->Nat
 |[]=>0
 |x::l=>max (WF x) (TH l)
end
theorem Ui {L:List (Int×yB)}:∀{l:List AuT},(∀x∈l,UG L x)->Eq L l
 |[],_=>by rw[Eq];trivial
 |x::l,h=>by rw[Eq];exact⟨h x nG,Ui fun y hy=>h y (qj _ hy)⟩
theorem UW {L:List (Int×yB)}:∀{l:List StT},(∀x∈l,PP L x)->TO L l
 |[],_=>by rw[TO];trivial
 |x::l,h=>by rw[TO];exact⟨h x nG,UW fun y hy=>h y (qj _ hy)⟩
theorem Uf:∀{l:List oX} {k:Nat} {x:oX},l[k]?=some x->Uj (l.take k)+x.left.l=Uj (l.take (k+1))/\Uj (l.take (k+1))<=Uj l
 |[],k,x,h=>by simp at h
 |a::l,0,x,h=>by
  simp at h;subst h;simp[Uj]
 |a::l,k+1,x,h=>by
  have:=Uf (l:=l) (k:=k) (x:=x) (by simpa using h);simp only[sD,Uj]at this⊢;omega
theorem TV:∀{l:List AuT} {k:Nat} {x:AuT},l[k]?=some x->ws (l.take k)+Xk x=ws (l.take (k+1))/\ws (l.take (k+1))<=ws l
 |[],k,x,h=>by simp at h
 |a::l,0,x,h=>by
  simp at h;subst h;simp[ws]
 |a::l,k+1,x,h=>by
  have:=TV (l:=l) (k:=k) (x:=x) (by simpa using h);simp only[sD,ws]at this⊢;omega
theorem US:∀{l:List StT} {x:StT},x∈l->WF x<=TH l
 |[],x,h=>by cases h
 |a::l,x,h=>by
  rw[TH];rcases uW.1 h with h | h
  ·subst h;omega
  have:=US h;omega
section
variable {L:List (Int×yB)} {B:Nat} {K K' K1 K2 K3:Yd} {w w' w'' D W1:yM} {b b1 g sq:Nat} {pe pn:Value} {nd q:Int} {nA:zA} {nc:Nat} {nl:List nh} {N M:Nat}
structure IO (L:List (Int×yB)) (B:Nat) (K:Yd) (w D:yM) (g sq:Nat) (pe:Value) (nA:zA) (nl:List nh) (nc:Nat) (nd q:Int):Prop where
 h:qr w g pe (.slice nA nl nc) nd q sq
 j:J L B K w
 s:K sq=some .seen
 g:K g=none
 n:ir 8 (Gy True) D ⟨nA,nc,nl⟩
 d:ik D (V K w)
theorem IO.step (E:IO L B K w D g sq pe nA nl nc nd q) (k:ii K K' w) (j:J L B K' w') (r:R K w w'):IO L B K' w' D g sq pe nA nl nc nd q:=
 ⟨r.blk E.h E.g,j,k.at (E.j.dom sq _ E.s).2 E.s,(k g (iP.lt E.h)).trans E.g,E.n,ij E.d (r.v k)⟩
theorem IO.after (E:IO L B K w D g sq pe nA nl nc nd q) (a:ik w w'):IO L B K w' D g sq pe nA nl nc nd q:=
 E.step (ii.refl K _) (E.j.after a) (R.of a)
structure TQ (L:List (Int×yB)) (B:Nat) (K1:Yd) (W1:yM) (b1 N:Nat) (K2:Yd) (w:yM):Prop where
 k:ii K1 K2 W1
 j:J L B K2 w
 r:R K1 W1 w
 n:T7 w b1 N
 o:Do K1 b1 W1 w
theorem TQ.step (i:TQ L B K1 W1 b1 N K2 w) (j1:J L B K1 W1) (k:ii K2 K3 w) (j:J L B K3 w') (r:R K2 w w') (n:T7 w' b1 M) (o:Do K2 b1 w w'):TQ L B K1 W1 b1 M K3 w':=
 ⟨i.k.trans k i.r.size,j,i.r.trans i.k r,n,Do.trans j1 i.o i.k o⟩
theorem TQ.nm (i:TQ L B K1 W1 b1 N K2 w) (j1:J L B K1 W1) (hb:K1 b1=some .nm):K2 b1=some .nm:=i.k.at (j1.dom _ _ hb).2 hb
theorem TQ.after (i:TQ L B K1 W1 b1 N K2 w) (j1:J L B K1 W1) (hb:K1 b1=some .nm) (a:ik w w'):TQ L B K1 W1 b1 N K2 w':=
 i.step j1 (ii.refl K2 _) (i.j.after a) (R.of a) (i.n.keep (a.below.block b1 (i.j.dom _ _ (i.nm j1 hb)).2)) (Do.of i.j (i.nm j1 hb) a)
theorem TQ.env (i:TQ L B K1 W1 b1 N K2 w) (E:IO L B K1 W1 D g sq pe nA nl nc nd q):IO L B K2 w D g sq pe nA nl nc nd q:=E.step i.k i.j i.r
theorem TQ.start (j1:J L B K1 W1) (n:T7 W1 b1 N):TQ L B K1 W1 b1 N K1 W1:=⟨ii.refl _ _,j1,R.refl _ _,n,Do.refl _ _ _⟩
theorem TQ.all {W0:yM} (i:TQ L B K1 W1 b1 N K2 w) (a:ik W0 W1) (hb:b1=W0+2):ik W0 w:=
 ⟨⟨i.r.os.trans a.below.os,i.r.tape.trans a.below.tape,i.r.output.trans a.below.output,jW a.below.size i.r.size,fun x hx=>(i.o x iu).trans (a.below.block x hx)⟩⟩
def Xp (L:List (Int×yB)) (B:Nat) (K:Yd) (w:yM) (b N:Nat) (P:Prop) (e:Ending) (w':yM):Prop:=Yj e\/(e=.returned (.tuple #[])/\∃K',ii K K' w.heap.size/\J L B K' w'/\T7 w' b N/\Do K b w w'/\P)
end
def XO (x:AuT):Prop:=∀(L:List (Int×yB)) (B:Nat) (K:Yd) (w D:yM) (g sq:Nat) (pe:Value) (nA:zA) (nl:List nh) (nc:Nat) (nd q:Int) (i b N:Nat),
 IO L B K w D g sq pe nA nl nc nd q->i<=nl->K b=some .nm->zS True D x->T7 w b N->N+Xk x<=1000000000 ->
 Calls prog 64 #[.pointer g,(i:Nat),.pointer (some b),.agg #[(x.ad,x.states,x.cap)]] w fun e w'=>R K w w'/\Xp L B K w b (N+Xk x) (UG L x) e w'
def XY (L:List (Int×yB)) (K:Yd) (w:yM) (x:StT) (e:Ending) (w':yM):Prop:=Yj e\/∃(A:zA) (c:Nat) (ys:List yB),ik w w'/\e=.returned (.slice A ys c)/\ir 1 Uk (V K w') ⟨A,c,ys⟩/\ys.length<=WF x/\PP L x
def XM (x:StT):Prop:=∀(L:List (Int×yB)) (B:Nat) (K:Yd) (w D:yM) (g sq:Nat) (pe:Value) (nA:zA) (nl:List nh) (nc:Nat) (nd q:Int) (i b:Nat),
 IO L B K w D g sq pe nA nl nc nd q->i<=nl->K b=some .nm->tY True D x->WF x<=1000000000 ->
 Calls prog 104 #[.pointer g,(i:Nat),.pointer b,.agg #[x.name,(x.locals.A,x.locals.l.length,x.locals.c),(x.eqs.A,x.eqs.l,x.eqs.c),(x.ad,x.autos,x.cap),(x.unl.A,x.unl.l,x.unl.c),(x.unt.A,x.unt.l,x.unt.c)]] w fun e w'=>R K w w'/\XY L K w x e w'
theorem iP.kK {w:yM} {S:Nat->Bool} {b:Nat} {t:TypeId} {cs:Array Value} (h:iP w b t cs) (hb:S b=false):iP (kK S w) b t cs:=(xk w hb).trans h
section
variable {L:List (Int×yB)} {B:Nat} {K K' K1 K2:Yd} {w w' D W1:yM} {b b1 g sq:Nat} {pe:Value} {nd q:Int} {nA:zA} {nc:Nat} {nl:List nh} {N M:Nat}
theorem UK (fg:Nat) (lb:Array Value) (eg:∀args w,(callFunc fg args).run prog w=.ok (.enter fg args) w)
  (hp:∀(U:World) (z:ByteArray),ik w U->Calls prog fg (#[.string z]++lb) U fun e w'=>Vu (fun _=>True) e/\ik U w') :
  Calls prog 141 #[(),.func (.func fg) #[] lb] w fun e w'=>e=.returned (.slice none 0 0)/\ik w w':=by
 have HI:=iB (Fr (ir.nil (P:=Uk) (sz:=1) w) fg lb eg hp);clear hp;go_in;go_wp2_with fail;refine HI.out.mono ?_;rintro e w1 ⟨⟨r,rfl,hr,hr2⟩,a1⟩;obtain rfl:r=-1:=by simp only[wJ]at hr2;omega
 go_wp2;go_ret;exact⟨rfl,a1⟩
theorem AC {W0:yM} {r:Option Nat} (a:ik W0 w) (h:w.grownBy w' r) (hr:∀g,r=some g->W0.heap.size<=g):ik W0 w':=
 ⟨⟨h.os.trans a.below.os,h.tape.trans a.below.tape,h.output.trans a.below.output,jW a.below.size h.size,fun x hx=>(h.block x (rO hx a.below.size) (fun e=>by have:=hr x e.symm;omega)).trans (a.below.block x hx)⟩⟩
theorem U3 {nm:yB} {lo:nB iO} {eq:nB oX} {aA:zA} {ac:Nat} {au:List AuT} {ul ut:nB ma} (hau:∀a∈au,XO a):XM (.mk nm lo eq aA ac au ul ut):=by
 obtain⟨ab,aa,lo⟩:=lo;obtain⟨ak,aj,eq⟩:=eq;obtain⟨uA,uc,ul⟩:=ul;obtain⟨tA,tc,ut⟩:=ut;intro L B K w D g sq pe nA nl nc nd q i b E hi hb hx hM;obtain⟨-,X1,X2,X3,X4,X5⟩:=hx.parts;have aT:=X1.len;have aS:=X2.len;have aR:=X5.len;simp only[]at aT aS aR;rw[WF]at hM;obtain⟨W0,b8,a0,B0⟩:∃W,w.alloc (.cells #[nm,(ab,lo,aa),(ak,eq,aj),(aA,au,ac),(uA,ul,uc),(tA,ut,tc)] 184)=W/\ik w W/\iP W w 184 #[nm,(ab,lo,aa),(ak,eq,aj),(aA,au,ac),(uA,ul,uc),(tA,ut,tc)]:=⟨_,rfl,zc,jC ..⟩;have E0:=E.after a0;have b3:=iB (TG E0.j (some b) (.inr ⟨b,rfl,hb⟩));have aM:=iB E0;have HE:=iB E;have HX:=iB (And.intro X1 (And.intro X2 (And.intro X3 (And.intro X4 X5))));have HB:=iB (And.intro hb (And.intro hi (And.intro hau hM)));have aO:=iB B0;have aw:=iB a0;have z1:W0.cell? (w,1)=(ab,lo,aa):=by rw[uJ B0];rfl
 clear E hb hi hx hau X1 X2 X3 X4 X5 hM B0 a0 E0;simp only[StT.name,StT.locals,StT.eqs,StT.ad,StT.autos,StT.cap,StT.unl,StT.unt];go_in;go_wp2_with fail;refine (b3.out).mono ?_;rintro e w1 ⟨rfl,a1,j1,B1⟩;obtain⟨F,aE⟩:=jt (jp K W0.heap.size);obtain⟨P,aC⟩:=jt (W0.heap.size+2);have aI:F P=some .nm:=by rw[<- aE,<- aC];unfold jp;rw[iV iu,iV iu,iG rfl]
 have af:ii K F W0:=by rw[<- aE];exact fun x hx=>jp.at hx
 obtain⟨W1,aV,Z,B2⟩:∃W,w1.alloc (.cells #[.pointer P] 136)=W/\ik w1 W/\iP W w1 136 #[.pointer P]:=⟨_,rfl,zc,jC ..⟩;have aQ:W0.heap.size+3<=w1:=by have:=iP.lt B1;omega
 rw[aE]at j1;rw[aC]at B1⊢;have kq:F w1=none:=j1.Tq (js _);have ks:F w=none:=by
  have h1:=aO.out.lt;rw[af _ h1];exact HE.out.j.Tq (js _)
 have BW:=mZ (k:=ij a1 Z) aO.out;have E1:IO L B F W1 D g sq pe nA nl nc nd q:=aM.out.step af (j1.after Z) (R.of (ij a1 Z));have ay:F b=some .nm:=af.at (aM.out.j.dom b _ HB.out.1).2 HB.out.1;have BN:=mZ (k:=Z) B1;have N1:T7 W1 P 0:=fun cs hc=>by
  have:=BN.symm.trans hc;injection this with this
  injection this with this
  rw[<- this];exact⟨none,0,0,rfl,js _⟩
 have C:Hid (F P=some .nm/\F b=some .nm/\F w=none/\F w1=none/\ik W0 W1/\P=W0+2):=iB ⟨aI,ay,ks,kq,ij a1 Z,aC.symm⟩;have c:=iB E1;have aN:=iB B2;have HF:Hid (∀N Y U,TQ L B F W1 P N Y U->U.cell? (w,1)=(ab,lo,aa)/\U.cell? (w,2)=(ak,eq,aj)/\U.cell? (w,3)=(aA,au,ac)/\U.cell? (w,4)=(uA,ul,uc)/\U.cell? (w,5)=(tA,ut,tc)/\Le (w+1) U/\U.cell? w1.heap.size=some (.pointer (some P))/\Le (w1+1) U):=iB fun N Y U i=>by
  have x0:=i.r.blk BW ks;have x1:=i.r.blk B2 kq;exact⟨by rw[uJ x0];rfl,by rw[uJ x0];rfl,by rw[uJ x0];rfl,by rw[uJ x0];rfl,by rw[uJ x0];rfl,jo x0,by rw[uJ x1];rfl,jo x1⟩
 have I1:=iB (TQ.start E1.j N1);have ao:Hid (ik D (V F W1)):=iB E1.d;have a9:Hid (∀N Y wr,TQ L B F W1 P N Y wr->∀U,R Y wr U->∀e,Yj e->R K w U/\XY L K w (.mk nm ⟨ab,aa,lo⟩ ⟨ak,aj,eq⟩ aA ac au ⟨uA,uc,ul⟩ ⟨tA,tc,ut⟩) e U):=iB fun N Y wr i U r e h=>⟨(R.of aw.out).trans (ii.refl K _) ((R.of C.out.2.2.2.2.1).trans af (i.r.trans i.k r)),.inl h⟩
 obtain⟨f1,f2,f3,f4,f5,f6,f7,f8⟩:=HF.out _ _ _ I1.out;clear j1 B1 BN N1 BW E1 aI af ay ks kq a1 aQ B2 z1;go_wp2_with fail;try rw[aV]
 go_loopw [23] (fun i wr=>∃k:Nat,k<=lo.length/\i=.int .i64 (k:Nat)/\Hid (TQ L B F W1 P 0 F wr)) (fun i _=>lo.length-(intOf i).toNat)
 ·exact⟨0,by omega,rfl,I1.out⟩
 case round=>
 obtain⟨k,hk,rfl,f⟩:=hrel;clear f1 f2 f3 f4 f5 f6 f7 f8;obtain⟨f1,f2,f3,f4,f5,f6,f7,f8⟩:=HF.out _ _ _ f.out;by_cases u:k<lo
 ·have H:(k:Int)<(lo:Int):=iu
  obtain⟨bj,pj,X,rfl,ae,O,o⟩:=(fd iM ky HX.out.1 ao.out f.out.r).part (i:=k) u;obtain⟨G,ty,cA,cc,cl⟩:=X;have y0:=o.c0;have y1:=o.c1;have y2:=o.c2;simp only[]at y0 y1 y2;clear o;obtain⟨J,aD,Z,I⟩:∃W,wr.alloc (.cells #[G,ty,(cA,cl,cc)] 77)=W/\ik wr W/\iP W wr 77 #[G,ty,(cA,cl,cc)]:=⟨_,rfl,zc,jC ..⟩;have d0:J.cell? wr=G:=by rw[uJ I];rfl
  have d1:J.cell? (wr,1)=ty:=by rw[uJ I];rfl
  have d2:J.cell? (wr,2)=(cA,cl,cc):=by rw[uJ I];rfl
  have dl:=jo I;obtain⟨W3,b7,a3,D3⟩:∃W,J.alloc (.cells #[G,ty,(cA,cl,cc)] 77)=W/\ik J W/\iP W J 77 #[G,ty,(cA,cl,cc)]:=⟨_,rfl,zc,jC ..⟩;have A:=f.out.after c.out.j C.out.1 Z;have I3:=A.after c.out.j C.out.1 a3;have E3:=I3.env c.out;have a':ir 3 VO (V F W3) ⟨some J.heap.size,1,[G]⟩:=by
   have h3:=iP.kK (S:=fun b=>(F b).isSome) D3 (by show (F _).isSome=false;rw[A.j.Tq (js _)];rfl);refine⟨.inr ⟨_,0,rfl,h3.lt,fun i y hy=>?_⟩,by simp,by simp,by simp⟩;cases i with
   |succ i=>simp at hy
   |zero=>
   simp at hy;subst hy;exact⟨(h3.cell 0).trans rfl,ty,cA,cl,cc,(h3.cell 1).trans rfl,(h3.cell 2).trans rfl⟩
  have HD:=iB (T4 E3.h E3.j E3.s E3.g C.out.1 a' (iq _));obtain⟨-,-,-,-,-,-,g7,g8⟩:=HF.out _ _ _ A;have HI:=iB I3;have b2:=iB I3.n;clear A I3 E3 a' Z I a3 D3;go_wp2_with fail;refine (HD.out).mono ?_;rintro e w5 ⟨r5,hp⟩;rcases hp with⟨x,y,E,hE,rfl⟩ | ⟨rfl,j5,o5,n5,-⟩
  ·have T:=iB (a9.out _ _ _ HI.out _ r5 _ ⟨x,y,E,hE,rfl⟩)
   clear hE;unfold mt at T⊢;go_wp2_with fail;exact⟨rfl,T.out⟩
  have M:=iB (HI.out.step c.out.j (ii.refl _ _) j5 r5 (b2.out.keep n5) o5);clear j5 r5 n5 o5;go_wp2_with fail;exact⟨⟨k+1,u,rfl,M.out⟩,by simp only[intOf];omega⟩
 have H:¬(k:Int)<(lo:Int):=iu
 have t:=f.out.env c.out;have HS:=iB (ST t.h t.j (f.out.nm c.out.j C.out.1) HX.out.1 t.d);clear t;go_wp2_with fail;refine (HS.out).mono ?_;rintro e w5 ⟨a5,hp⟩;rcases hp with⟨x,y,E,hE,rfl⟩ | rfl
 ·have T:=iB (a9.out _ _ _ f.out _ (R.of a5) _ ⟨x,y,E,hE,rfl⟩)
  clear hE;unfold mt at T⊢;go_wp2_with fail;exact⟨rfl,T.out⟩
 have M:=iB (f.out.after c.out.j C.out.1 a5);clear a5 f HS;clear f1 f2 f3 f4 f5 f6 f7 f8;obtain⟨f1,f2,f3,f4,f5,f6,f7,f8⟩:=HF.out _ _ _ M.out;go_wp2_with fail;go_loopw [41] (fun i wr=>∃k:Nat,k<=eq.length/\i=.int .i64 (k:Nat)/\Hid ((∃Y,TQ L B F W1 P (Uj (eq.take k)) Y wr)/\∀q∈eq.take k,Ul L q.right)) (fun i _=>eq.length-(intOf i).toNat)
 ·exact⟨0,by omega,rfl,⟨F,M.out⟩,fun d hd=>by cases hd⟩
 case round=>
 obtain⟨k,hk,rfl,f⟩:=hrel;clear f1 f2 f3 f4 f5 f6 f7 f8;obtain⟨⟨Y,i2⟩,p⟩:=f.out;have f:=iB i2;have a_:=iB p;clear i2 p;obtain⟨f1,f2,f3,f4,f5,f6,f7,f8⟩:=HF.out _ _ _ f.out;by_cases u:k<eq
 ·have H:(k:Int)<(eq:Int):=iu
  obtain⟨bj,pj,X,rfl,ae,O,o⟩:=(fd mX uU HX.out.2.1 ao.out f.out.r).part (i:=k) u;obtain⟨_,_,a4⟩:=(HX.out.2.1).elem O.out;have ai:=iB (Uf O.out);obtain⟨⟨lA,lc,ll⟩,⟨ek,eo,et,ev,es,eA,ec,ar⟩⟩:=X;have y0:wr.cell? (bj,pj+k*7)=(lA,ll,lc):=o.c0;have y1:wr.cell? (bj,pj+k*7+1)=ek:=o.six.c0;have y2:wr.cell? (bj,pj+k*7+2)=eo:=o.six.c1;have y3:wr.cell? (bj,pj+k*7+3)=et:=o.six.c2;have y4:wr.cell? (bj,pj+k*7+4)=ev:=o.six.c3;have y5:wr.cell? (bj,pj+k*7+5)=es:=o.six.c4;have y6:wr.cell? (bj,pj+k*7+6)=(eA,ar,ec):=o.six.c5;obtain⟨J,aD,Z,I⟩:∃W,wr.alloc (.cells #[(lA,ll,lc),ek,eo,et,ev,es,(eA,ar,ec)] 79)=W/\ik wr W/\iP W wr 79 #[(lA,ll,lc),ek,eo,et,ev,es,(eA,ar,ec)]:=⟨_,rfl,zc,jC ..⟩;have d0:J.cell? wr=(lA,ll,lc):=by rw[uJ I];rfl
  have d1:J.cell? (wr,1)=ek:=by rw[uJ I];rfl
  have d2:J.cell? (wr,2)=eo:=by rw[uJ I];rfl
  have d3:J.cell? (wr,3)=et:=by rw[uJ I];rfl
  have d4:J.cell? (wr,4)=ev:=by rw[uJ I];rfl
  have d5:J.cell? (wr,5)=es:=by rw[uJ I];rfl
  have d6:J.cell? (wr,6)=(eA,ar,ec):=by rw[uJ I];rfl
  have dl:=jo I;have A:=f.out.after c.out.j C.out.1 Z;have t:=A.env c.out;have hM:=HB.out.2.2.2;have ah:=ai.out;have HC:=iB (RK t.h t.j t.s t.g (A.nm c.out.j C.out.1) t.n t.d HB.out.2.1 a4.lf a4.ri a4.tb A.n (by simp only[]at ah;omega));obtain⟨-,-,-,-,-,-,g7,g8⟩:=HF.out _ _ _ A;have HI:=iB A;clear A t hM ah a4 o I Z;go_wp2_with fail;refine (HC.out).mono ?_;rintro e w5 ⟨r5,hp⟩;rcases hp with⟨x,y,E,hE,rfl⟩ | ⟨rfl,K3,k3,j3,n3,o3,p⟩
  ·have T:=iB (a9.out _ _ _ HI.out _ r5 _ ⟨x,y,E,hE,rfl⟩)
   clear hE;unfold mt at T⊢;go_wp2_with fail;exact⟨rfl,T.out⟩
  have M:=HI.out.step c.out.j k3 j3 r5 n3 o3;rw[ai.out.1]at M;have aG:=iB M;have aF:=iB (lm a_.out O.out p);clear j3 r5 n3 o3 k3 M p;go_wp2_with fail;exact⟨⟨k+1,u,rfl,⟨K3,aG.out⟩,aF.out⟩,by simp only[intOf];omega⟩
 have H:¬(k:Int)<(eq:Int):=iu
 have b0:=iB (li a_.out u);have al:Hid (TQ L B F W1 P (Uj eq) Y wr):=by
  have:=f.out;rw[Dn iu]at this;exact this
 clear a_ f;have f:=al;clear al;go_wp2_with fail;go_loopw [54] (fun i wr=>∃k:Nat,k<=au.length/\i=.int .i64 (k:Nat)/\Hid ((∃Y,TQ L B F W1 P (Uj eq+ws (au.take k)) Y wr)/\∀q∈au.take k,UG L q)) (fun i _=>au.length-(intOf i).toNat)
 ·exact⟨0,by omega,rfl,⟨Y,f.out⟩,fun d hd=>by cases hd⟩
 case round=>
 obtain⟨k,hk,rfl,f⟩:=hrel;clear f1 f2 f3 f4 f5 f6 f7 f8;obtain⟨⟨Y,i2⟩,p⟩:=f.out;have f:=iB i2;have a_:=iB p;clear i2 p;obtain⟨f1,f2,f3,f4,f5,f6,f7,f8⟩:=HF.out _ _ _ f.out;by_cases u:k<au
 ·have H:(k:Int)<(au:Int):=iu
  obtain⟨bj,pj,X,rfl,ae,O,o⟩:=(fd qO wY HX.out.2.2.2.2 ao.out f.out.r).part (i:=k) u;obtain⟨_,_,a4⟩:=(HX.out.2.2.2.2).elem O.out;have ai:=iB (TV O.out);have y0:wr.cell? (bj,pj+k)=(X.ad,X.states,X.cap):=by have:=o.1;simpa using this
  obtain⟨J,aD,Z,I⟩:∃W,wr.alloc (.cells #[(X.ad,X.states,X.cap)] 131)=W/\ik wr W/\iP W wr 131 #[(X.ad,X.states,X.cap)]:=⟨_,rfl,zc,jC ..⟩;have d0:J.cell? wr=(X.ad,X.states,X.cap):=by rw[uJ I];rfl
  have dl:=jo I;have A:=f.out.after c.out.j C.out.1 Z;have hM:=HB.out.2.2.2;have ah:=ai.out;have HC:=iB (HB.out.2.2.1 X (om O.out) _ _ _ _ _ _ _ _ _ _ _ _ _ _ _ _ (A.env c.out) HB.out.2.1 (A.nm c.out.j C.out.1) a4.2 A.n (by simp only[]at ah;omega));obtain⟨-,-,-,-,-,-,g7,g8⟩:=HF.out _ _ _ A;have HI:=iB A;clear A hM ah a4 o I Z;go_wp2_with fail;refine (HC.out).mono ?_;rintro e w5 ⟨r5,hp⟩;rcases hp with⟨x,y,E,hE,rfl⟩ | ⟨rfl,K3,k3,j3,n3,o3,p⟩
  ·have T:=iB (a9.out _ _ _ HI.out _ r5 _ ⟨x,y,E,hE,rfl⟩)
   clear hE;unfold mt at T⊢;go_wp2_with fail;exact⟨rfl,T.out⟩
  have M:=HI.out.step c.out.j k3 j3 r5 n3 o3;rw[CL,ai.out.1]at M;have aG:=iB M;have aF:=iB (lm a_.out O.out p);clear j3 r5 n3 o3 k3 M p;go_wp2_with fail;exact⟨⟨k+1,u,rfl,⟨K3,aG.out⟩,aF.out⟩,by simp only[intOf];omega⟩
 have H:¬(k:Int)<(au:Int):=iu
 have aZ:=iB (li a_.out u);have al:Hid (TQ L B F W1 P (Uj eq+ws au) Y wr):=by
  have:=f.out;rw[Dn iu]at this;exact this
 clear a_ f;have f:=al;clear al;have t:=f.out.env c.out;have HS:=iB (BT t.h t.j t.s (f.out.k.at (c.out.j.dom b _ C.out.2.1).2 C.out.2.1) t.n t.d HB.out.2.1 HX.out.2.2.1);clear t;go_wp2_with fail;refine (HS.out).mono ?_;rintro e w5 ⟨a5,hp⟩;rcases hp with⟨x,y,E,hE,rfl⟩ | ⟨rfl,p⟩
 ·have T:=iB (a9.out _ _ _ f.out _ (R.of a5) _ ⟨x,y,E,hE,rfl⟩)
  clear hE;unfold mt at T⊢;go_wp2_with fail;exact⟨rfl,T.out⟩
 have M:=iB (f.out.after c.out.j C.out.1 a5);have aY:=iB p;clear a5 f HS p;clear f1 f2 f3 f4 f5 f6 f7 f8;obtain⟨f1,f2,f3,f4,f5,f6,f7,f8⟩:=HF.out _ _ _ M.out;have t:=M.out.env c.out;have HS:=iB (BT t.h t.j t.s (M.out.nm c.out.j C.out.1) t.n t.d HB.out.2.1 HX.out.2.2.2.1);clear t;go_wp2_with fail;refine (HS.out).mono ?_;rintro e w6 ⟨a6,hp⟩;rcases hp with⟨x,y,E,hE,rfl⟩ | ⟨rfl,p⟩
 ·have T:=iB (a9.out _ _ _ M.out _ (R.of a6) _ ⟨x,y,E,hE,rfl⟩)
  clear hE;unfold mt at T⊢;go_wp2_with fail;exact⟨rfl,T.out⟩
 have I6:=iB (M.out.after c.out.j C.out.1 a6);have aX:=iB p;clear a6 M HS p;clear f1 f2 f3 f4 f5 f6 f7 f8;obtain⟨f1,f2,f3,f4,f5,f6,f7,f8⟩:=HF.out _ _ _ I6.out;go_wp2_with fail;go_loopw [79] (fun i wr=>∃k:Nat,k<=lo.length/\i=.int .i64 (k:Nat)/\Hid (TQ L B F W1 P (Uj eq+ws au) Y wr)) (fun i _=>lo.length-(intOf i).toNat)
 ·exact⟨0,by omega,rfl,I6.out⟩
 case round=>
 obtain⟨k,hk,rfl,f⟩:=hrel;clear f1 f2 f3 f4 f5 f6 f7 f8;obtain⟨f1,f2,f3,f4,f5,f6,f7,f8⟩:=HF.out _ _ _ f.out;by_cases u:k<lo
 ·have H:(k:Int)<(lo:Int):=iu
  obtain⟨bj,pj,X,rfl,ae,O,o⟩:=(fd iM ky HX.out.1 ao.out f.out.r).part (i:=k) u;obtain⟨G,ty,cA,cc,cl⟩:=X;have y0:=o.c0;have y1:=o.c1;have y2:=o.c2;simp only[]at y0 y1 y2;clear o;obtain⟨J,aD,Z,I⟩:∃W,wr.alloc (.cells #[G,ty,(cA,cl,cc)] 77)=W/\ik wr W/\iP W wr 77 #[G,ty,(cA,cl,cc)]:=⟨_,rfl,zc,jC ..⟩;have d0:J.cell? wr=G:=by rw[uJ I];rfl
  have dl:=jo I;have A:=f.out.after c.out.j C.out.1 Z;obtain⟨up,oo,d,ip,v,n,N1,-,F3,-⟩:=A.j.nm (A.nm c.out.j C.out.1);obtain⟨r,hr⟩:=NE A.j F3 G;have n2:J.cell? (P,2)=some (.map (some d)):=by rw[uJ N1];rfl
  have b5:=jo N1;have t:=A.env c.out;have HM:Hid (∀ok U,ik J U->∀Q:Ending->yM->Prop,_):=iB fun ok U hU Q=>LT (Q:=Q) t.h (E:=8) iI hU ok
  obtain⟨-,-,-,-,-,-,g7,g8⟩:=HF.out _ _ _ A;have HI:=iB A;clear A t N1 F3 I Z;go_wp2_with fail;refine wp_region_still_tail 8 kp kp ?_;simp only[sD,rP,uB,sS];change wpStill _ _ (World.drew _) _ _ _;repeat still_step
  refine wpStill_nil ?_;change wpList _ _ _ _ _ (World.drew _);go_wp2_with fail;refine HM.out _ _ zc _ (fun w3 e hp a3=>?_) fun w3 _ _ a3=>?_
  ·obtain⟨x,y,E,hE,rfl⟩:=hp
   have T:=iB (a9.out _ _ _ HI.out _ (R.of a3) _ ⟨x,y,E,hE,rfl⟩);clear hE;unfold mt at T⊢;go_wp2_with fail;exact⟨rfl,T.out⟩
  have M:=iB (HI.out.after c.out.j C.out.1 a3);clear a3;go_wp2_with fail;exact⟨⟨k+1,u,rfl,M.out⟩,by simp only[intOf];omega⟩
 have H:¬(k:Int)<(lo:Int):=iu
 obtain⟨up,oo,d,ip,A4,n4,c4,aP,N1,F2,-,-,-,F6,F7⟩:=f.out.j.nmF (f.out.nm c.out.j C.out.1);obtain⟨A5,n5,c5,e5,az⟩:=f.out.n _ N1;have e6:A4=A5/\n4=n5/\c4=c5:=by simpa using e5
 obtain⟨rfl,rfl,rfl⟩:=e6;obtain⟨es,ce,O1,O2⟩:=f.out.j.ok oo _ F2;have am:=f.out.r.blk aN.out C.out.2.2.2.1;have hM:=HB.out.2.2.2;have b6:wr.cell? (P,4)=(A4,n4,c4):=by rw[uJ N1];rfl
 have b4:=jo N1;have aW:=f.out.all C.out.2.2.2.2.1 C.out.2.2.2.2.2;have aK:Hid (PP L (.mk nm ⟨ab,aa,lo⟩ ⟨ak,aj,eq⟩ aA ac au ⟨uA,uc,ul⟩ ⟨tA,tc,ut⟩)):=by
  show PP _ _
  rw[PP];exact⟨b0.out,Ui aZ.out,aY.out,aX.out⟩
 have eg:=enters_of func142 kp rfl;have aq:∀y k,Y y=some k->y<wr.heap.size:=fun y k h=>(f.out.j.dom y k h).2
 have an:=f.out.nm c.out.j C.out.1;have aB:∀y,F y=none->y<W1.heap.size->Y y=none:=fun y h h2=>(f.out.k y h2).trans h
 rcases F6.2 with⟨e7,rfl⟩ | ⟨g4,cap,av,e7,h9,h10,h11,h12,h13,h14⟩
 ·obtain⟨rfl,-,rfl⟩:A4=none/\True/\c4=0:=by simpa using e7
  have HD:=iB (UK (w:=wr) 142 #[.pointer (some w1.heap.size)] eg fun U z hU=>T9 (mZ (k:=hU) am) (mZ (k:=hU) N1) ((hU.below.block oo (aq _ _ F2)).trans O1) O2 z);have aU:=iB aW;clear aW N1 F2 F6 F7 O1 O2 am e5 az e7 aq aB an hM;go_wp2_with fail;refine (HD.out).mono ?_;rintro e w7 ⟨rfl,a7⟩;have a8:=ij aw.out (ij aU.out a7);clear a7;go_wp2;go_ret;exact⟨R.of a8,.inr ⟨none,0,[],a8,rfl,ir.nil _,wB _,aK.out⟩⟩
 obtain⟨rfl,-,rfl⟩:A4=some ⟨g4,0,none⟩/\True/\c4=cap:=by simpa using e7
 have ag:Y g4=some (.row P):=F7 g4 rfl;have ax:=f.out.j.qU g4 P ag;have aL:Ya wr g4 c4 n4:=by
  refine⟨av,h10,by rw[h13];omega,fun x hx=>?_⟩;have hl:=F6.1;rw[pE]at hl;have aH:(av.toList.take (n4*1))[x]?=(aP.map Value.string)[x]?:=by rw[h14]
  rw[List.getElem?_take,iG iu,Array.getElem?_toList,JL,qn iu]at aH;exact⟨_,aH⟩
 have HD:=iB (UL aL h11 (by unfold maxLen at h12;omega) iu 142 #[.pointer (some w1.heap.size)] eg fun U z hU=>T9
  ((hU.block _ am.lt (fun e=>by injection e with e;have:=aB w1 C.out.2.2.2.1 aN.out.lt;rw[e,ag]at this;cases this)).trans am)
  ((hU.block _ N1.lt (fun e=>by injection e with e;rw[e,ag]at an;cases an)).trans N1)
  ((hU.block oo (aq _ _ F2) (fun e=>by injection e with e;rw[e,ag]at F2;cases F2)).trans O1) O2 z)
 have aJ:Hid (n4<=c4/\c4<=9223372036854775807/\n4<=Uj eq+ws au/\Uj eq+ws au<=1000000000/\ik W0 wr/\P<g4/\w<=g4/\W0<=g4):=iB ⟨h11,(by unfold maxLen at h12;omega),az,hM,aW,ax,(by have:=aw.out.below.size;have:=C.out.2.2.2.2.2;omega),(by have:=C.out.2.2.2.2.2;omega)⟩;clear aW N1 F2 F6 F7 O1 O2 am e5 az e7 aq aB an hM h9 h10 h11 h12 h13 h14 aL ax ag;go_wp2_with fail;refine (HD.out).mono ?_;rintro e w7 ⟨gr,m,hm,rfl,hS⟩;have HG:=iB (And.intro gr (And.intro hm hS));clear gr hm hS;go_wp2;go_ret;obtain⟨gr,hm,av,s1,s2,s3⟩:=HG.out;obtain⟨q1,q2,q3,q4,q5,q6,q7,q8⟩:=aJ.out;have a8:=ij aw.out (AC q5 gr fun g e=>by cases e;exact q8);have s4:Ya (V K w7) g4 c4 n4:=⟨av,iP.kK (S:=fun b=>(K b).isSome) s1 (by show (K g4).isSome=false;rw[HE.out.j.Tq q7];rfl),s2,s3⟩;obtain⟨ys,rfl,a'⟩:=s4.row hm q1 q2 iu;exact⟨R.of a8,.inr ⟨_,_,ys,a8,rfl,a',by rw[WF];exact jW hm q3,aK.out⟩⟩
end
theorem xm {S:Prop}:Ai (OZ S):=fun W w b o y k h=>⟨h.1.sub k,tY.sub k y h.2⟩
theorem ir.take {α:Type} {sz:Nat} {P:yM->Nat->Nat->α->Prop} {w:yM} {A:zA} {c:Nat} {l:List α} (h:ir sz P w ⟨A,c,l⟩) (k:Nat):ir sz P w ⟨A,c,l.take k⟩:=by
 have e:=List.length_take_le' k l;refine⟨?_,jW e h.le,h.cap,jW e h.len⟩;rcases h.cells with e | ⟨b,p,e,hlt,hc⟩
 ·exact .inl (by show l.take k=[];rw[show l=[] from e];exact List.take_nil)
 exact .inr ⟨b,p,e,hlt,fun i y d=>hc i y (by
  have a:(l.take k)[i]?=some y:=d;rw[List.getElem?_take]at a;split at a
  ·exact a
  cases a)⟩
theorem VA {w:yM} {A:zA} {c:Nat} {l:List yB} (h:ir 1 Uk w ⟨A,c,l⟩):oZ w w 1 A l (l.map Value.string):=by
 refine⟨by simp,fun d=>?_⟩;rcases h.cells with e | ⟨b,p,e,hlt,hc⟩
 ·rw[show l=[] from e]at d;cases d
 refine⟨⟨b,p,none⟩,e,hlt,fun j u a=>?_⟩;rw[JL]at a;obtain⟨y,f,rfl⟩:=Option.map_eq_some_iff.1 a;have:=hc j y f;rw[yb];simpa[Uk] using this
theorem U8 {l:List StT} {k:Nat} {x:StT} (h:((l.take k).map StT.name).Nodup) (hk:l[k]?=some x) (hx:∀y∈l.take k,y.name≠x.name):((l.take (k+1)).map StT.name).Nodup:=by
 rw[List.take_add_one,hk,s_];refine List.nodup_append.2 ⟨h,by simp,?_⟩;intro a f b c e;obtain⟨y,d,rfl⟩:=yQ.1 f;simp at c;subst c;exact hx y d e
section
variable {L:List (Int×yB)} {B:Nat} {K K' K1 K2:Yd} {w w' D W1:yM} {b b1 g sq:Nat} {pe:Value} {nd q:Int} {nA:zA} {nc:Nat} {nl:List nh} {N M:Nat}
theorem VK {A:zA} {c:Nat} {l:List StT} (hst:∀x∈l,XM x):XO (.mk A c l):=by
 intro L B K w D g sq pe nA nl nc nd q i b N E hi I hx hN hM;have X1:=hx.rows;have ax:=X1.len;simp only[]at ax;rw[Xk]at hM⊢;obtain⟨W0,aU,a0,B0⟩:∃W,w.alloc (.cells #[(A,l.length,c)] 131)=W/\ik w W/\iP W w 131 #[(A,l.length,c)]:=⟨_,rfl,zc,jC ..⟩;have HE:=iB E;have HX:=iB X1;have HB:=iB (And.intro I (And.intro hi (And.intro hst (And.intro hM hN))));have HF:Hid (∀U,ik W0 U->U.cell? w.heap.size=(A,l.length,c)/\Le (w+1) U):=iB fun U hU=>by
  have x0:=mZ (k:=hU) B0;exact⟨by rw[uJ x0];rfl,jo x0⟩
 have H:=iB a0;have HM:Hid (∀(E:Int),E≠0->∀ok U,ik W0 U->∀Q:Ending->yM->Prop,_):=iB fun E' hE ok U hU Q=>LT (Q:=Q) (E.after a0).h hE hU ok
 have z0:W0.cell? w=(A,l.length,c):=by rw[uJ B0];rfl
 have zl:=jo B0;clear E I hi hst X1 hM hN B0 a0 hx;simp only[AuT.ad,AuT.states,AuT.cap];go_in;go_wp2_with fail;go_loopw [20,8] (fun i j wr=>∃k:Nat,k<=l.length/\i=.int .i64 (k:Nat)/\ik W0 wr/\Hid (((l.take k).map StT.name).Nodup)) (fun i _ _=>l.length-(intOf i).toNat)
 ·exact⟨0,by omega,rfl,iq _,by show List.Nodup _;simp⟩
 case round=>
 obtain⟨k,hk,rfl,ar,HT⟩:=hrel;obtain⟨z0,zl⟩:=HF.out wr ar;by_cases z:k<l
 ·have o:(k:Int)<(l.length:Int):=iu
  have S:=iB (fd Lw xm HX.out HE.out.d (R.of (ij H.out ar)));obtain⟨bj,pj,a,rfl,a',P,Z⟩:=S.out.part (i:=k) z;obtain⟨aq,z1,z2,z3,z4,z5⟩:=Z.1;have aS:k<=c:=by have:=HX.out.le;simp only[]at this;omega
  obtain⟨W2,ak,a2,D2⟩:∃W,wr.alloc (.cells #[a.name,(a.locals.A,a.locals.l.length,a.locals.c),(a.eqs.A,a.eqs.l.length,a.eqs.c),(a.ad,a.autos.length,a.cap),(a.unl.A,a.unl.l.length,a.unl.c),(a.unt.A,a.unt.l.length,a.unt.c)] 184)=W/\ik wr W/\iP W wr 184 #[a.name,(a.locals.A,a.locals.l.length,a.locals.c),(a.eqs.A,a.eqs.l.length,a.eqs.c),(a.ad,a.autos.length,a.cap),(a.unl.A,a.unl.l.length,a.unl.c),(a.unt.A,a.unt.l.length,a.unt.c)]:=⟨_,rfl,zc,jC ..⟩;have F:=ij ar a2;obtain⟨g0,gl⟩:=HF.out W2 F;have aw:(l.take k).length=k:=by rw[Fi];omega
  have HC:=iB (T6 D2 ((S.out.below Lw a2.below).take k));rw[aw]at HC;have aV:=iB F;clear Z D2 a2;go_wp2_with fail;refine (HC.out).mono ?_;rintro e w3 ⟨⟨r,rfl,hr⟩,a3⟩;have M:=ij F a3;have HN:=iB hr;clear hr a3;go_wp2_with fail;refine HM.out 7 iI _ _ M _ (fun t e hp G=>?_) fun t a5 _ G=>?_
  ·obtain⟨x,y,E,hE,rfl⟩:=hp
   have HP:Hid (Xp L B K w b (N+TH l) (UG L (.mk (some (bj,pj)) c l)) (.panicked [{ v:=.iface 81 (.agg #[x,y,E]),recovered:=false }]) t):=iB (.inl ⟨x,y,E,hE,rfl⟩);clear hE;unfold mt;go_wp2_with fail;exact⟨rfl,R.of (ij H.out G),HP.out⟩
  have aF:Hid (((l.take (k+1)).map StT.name).Nodup):=U8 HT.out P.out (HN.out (by simpa using a5));clear a5;go_wp2_with fail;exact⟨⟨k+1,by omega,by go_num,G,aF⟩,by simp only[intOf];omega⟩
 have o:¬(k:Int)<(l.length:Int):=iu
 have aJ:Hid ((l.map StT.name).Nodup):=by
  have:=HT.out;rw[Dn iu]at this;exact this
 go_wp2_with fail;go_loopw [38,10,11] (fun i v s wr=>∃(k:Nat) (A1:zA) (c1:Nat) (ys:List yB) (sm:Bool),k<=l.length/\i=.int .i64 (k:Nat)/\v=.slice A1 ys.length c1/\s=.bool sm/\ik W0 wr/\Hid (ir 1 Uk (V K wr) ⟨A1,c1,ys⟩/\ys.length<=TH l/\∀x∈l.take k,PP L x)) (fun i _ _ _=>l.length-(intOf i).toNat)
 ·exact⟨0,none,0,[],true,by omega,rfl,rfl,rfl,ar,ir.nil _,wB _,fun x hx=>by cases hx⟩
 case round=>
 clear ar HT z0 zl;obtain⟨k,A1,c1,ys,sm,hk,rfl,rfl,rfl,ar,S⟩:=hrel;obtain⟨z0,zl⟩:=HF.out wr ar;by_cases z:k<l
 ·have o:(k:Int)<(l.length:Int):=iu
  have a6:=iB (fd Lw xm HX.out HE.out.d (R.of (ij H.out ar)));obtain⟨bj,pj,a,rfl,a',P,Z⟩:=a6.out.part (i:=k) z;obtain⟨_,_,al⟩:=(HX.out).elem P.out;obtain⟨aq,z1,z2,z3,z4,z5⟩:=Z.1;obtain⟨W2,ak,a2,D2⟩:∃W,wr.alloc (.cells #[a.name,(a.locals.A,a.locals.l.length,a.locals.c),(a.eqs.A,a.eqs.l.length,a.eqs.c),(a.ad,a.autos.length,a.cap),(a.unl.A,a.unl.l.length,a.unl.c),(a.unt.A,a.unt.l.length,a.unt.c)] 184)=W/\ik wr W/\iP W wr 184 #[a.name,(a.locals.A,a.locals.l.length,a.locals.c),(a.eqs.A,a.eqs.l.length,a.eqs.c),(a.ad,a.autos.length,a.cap),(a.unl.A,a.unl.l.length,a.unl.c),(a.unt.A,a.unt.l.length,a.unt.c)]:=⟨_,rfl,zc,jC ..⟩;have F:=ij ar a2;have d0:W2.cell? wr=a.name:=by rw[uJ D2];rfl
  have d1:W2.cell? (wr.heap.size,1)=(a.locals.A,a.locals.l.length,a.locals.c):=by rw[uJ D2];rfl
  have d2:W2.cell? (wr.heap.size,2)=(a.eqs.A,a.eqs.l.length,a.eqs.c):=by rw[uJ D2];rfl
  have d3:W2.cell? (wr.heap.size,3)=(a.ad,a.autos.length,a.cap):=by rw[uJ D2];rfl
  have d4:W2.cell? (wr.heap.size,4)=(a.unl.A,a.unl.l.length,a.unl.c):=by rw[uJ D2];rfl
  have d5:W2.cell? (wr.heap.size,5)=(a.unt.A,a.unt.l.length,a.unt.c):=by rw[uJ D2];rfl
  have dl:=jo D2;have ae:=om P.out;have aj:WF a<=TH l:=US ae;have hM:=HB.out.2.2.2.1;have HC:=iB (HB.out.2.2.1 a ae _ _ _ _ _ _ _ _ _ _ _ _ _ _ _ (HE.out.after (ij H.out F)) HB.out.2.1 HB.out.1 al.2 iu);have HD:=iB aj;clear Z al D2 a2 ae aj hM;go_wp2_with fail;refine (HC.out).mono ?_;rintro e w3 ⟨r3,hp⟩;rcases hp with⟨x,y,E,hE,rfl⟩ | ⟨A2,c2,zs,a3,rfl,f,af,hsn⟩
  ·have HP:Hid (R K w w3/\Xp L B K w b (N+TH l) (UG L (.mk (some (bj,pj)) c l)) (.panicked [{ v:=.iface 81 (.agg #[x,y,E]),recovered:=false }]) w3):=iB ⟨(R.of (ij H.out F)).trans (ii.refl K _) r3,.inl ⟨x,y,E,hE,rfl⟩⟩
   clear hE r3;unfold mt;go_wp2_with fail;exact⟨rfl,HP.out⟩
  have M:=ij F a3;have p:Hid (∀U,ik w3 U->(ir 1 Uk (V K U) ⟨A1,c1,ys⟩/\ys.length<=TH l/\∀x∈l.take (k+1),PP L x)/\(ir 1 Uk (V K U) ⟨A2,c2,zs⟩/\zs.length<=TH l/\∀x∈l.take (k+1),PP L x)):=iB fun U hU=>by
   have h9:=lm S.out.2.2 P.out hsn;have h8:ik (V K w3) (V K U):=(R.of hU).v (ii.refl K _);have h7:ik (V K wr) (V K w3):=(R.of (ij (show ik wr W2 by rw[<- ak];infer_instance) a3)).v (ii.refl K _);exact⟨⟨S.out.1.below ro (ij h7 h8).below,S.out.2.1,h9⟩,f.below ro h8.below,jW af HD.out,h9⟩
  clear f af hsn r3 a3 S HD;rcases Nat.eq_zero_or_pos k with az | az
  ·have ay:(k:Int)=0:=iu
   cases sm with
   |true=>
    go_wp2_with fail;refine (Ut ((p.out _ (iq _)).2.1.sub rt (V.sub K w3)) ((p.out _ (iq _)).2.1.sub rt (V.sub K w3))).mono ?_;rintro e t ⟨⟨bb,rfl,-⟩,G⟩;have ag:=ij M G;have ah:=iB (p.out _ G);clear G;go_wp2_with fail;exact⟨⟨k+1,_,_,_,bb,by omega,by go_num,rfl,rfl,ag,ah.out.2⟩,by simp only[intOf];omega⟩
   |false=>
   go_wp2_with fail;exact⟨⟨k+1,_,_,_,false,by omega,by go_num,rfl,rfl,M,(p.out _ (iq _)).2⟩,by simp only[intOf];omega⟩
  have ay:¬(k:Int)=0:=iu
  cases sm with
  |true=>
   go_wp2_with fail;refine (Ut ((p.out _ (iq _)).2.1.sub rt (V.sub K w3)) ((p.out _ (iq _)).1.1.sub rt (V.sub K w3))).mono ?_;rintro e t ⟨⟨bb,rfl,-⟩,G⟩;have ag:=ij M G;have ah:=iB (p.out _ G);clear G;go_wp2_with fail;exact⟨⟨k+1,_,_,_,bb,by omega,by go_num,rfl,rfl,ag,ah.out.1⟩,by simp only[intOf];omega⟩
  |false=>
  go_wp2_with fail;exact⟨⟨k+1,_,_,_,false,by omega,by go_num,rfl,rfl,M,(p.out _ (iq _)).1⟩,by simp only[intOf];omega⟩
 have o:¬(k:Int)<(l.length:Int):=iu
 have aI:Hid (UG L (.mk A c l)):=by
  show UG _ _
  rw[UG];exact⟨aJ.out,UW (li S.out.2.2 z)⟩
 have a7:=iB (And.intro S.out.1 S.out.2.1);clear S;go_wp2_with fail;refine HM.out 8 iI _ _ ar _ (fun t e hp G=>?_) fun t a5 _ G=>?_
 ·obtain⟨x,y,E,hE,rfl⟩:=hp
  have HP:Hid (Xp L B K w b (N+TH l) (UG L (.mk A c l)) (.panicked [{ v:=.iface 81 (.agg #[x,y,E]),recovered:=false }]) t):=iB (.inl ⟨x,y,E,hE,rfl⟩);clear hE;unfold mt;go_wp2_with fail;exact⟨rfl,R.of (ij H.out G),HP.out⟩
 have ai:ir 1 Uk (V K t) ⟨A1,c1,ys⟩:=a7.out.1.below ro ((R.of (show ik wr t by assumption)).v (ii.refl K _)).below;have a1:=ij H.out G;have aL:Hid (J L B K t/\R K w t/\T7 t b N/\Do K b w t):=iB ⟨HE.out.j.after a1,R.of a1,HB.out.2.2.2.2.keep (a1.below.block b (HE.out.j.dom b _ HB.out.1).2),Do.of HE.out.j HB.out.1 a1⟩;have a6:=iB ai;have aK:=iB a7.out.2;have aT:ys.length<=1000000000:=by have:=a7.out.2;have:=HB.out.2.2.2.1;omega
 clear ai a5 a7 a1;go_wp2_with fail;go_loopw [63] (fun i wr=>∃m:Nat,m<=ys.length/\i=.int .i64 (m:Nat)/\Hid (R K t wr/\J L B K wr/\R K w wr/\T7 wr b N/\Do K b w wr)) (fun i _=>ys.length-(intOf i).toNat)
 ·exact⟨0,by omega,rfl,R.refl _ _,aL.out⟩
 case round=>
 obtain⟨m,hm,rfl,S⟩:=hrel;obtain⟨r4,Y,r1,n1,o1⟩:=S.out;have I:=HB.out.1;by_cases z:m<ys
 ·have o:(m:Int)<(ys.length:Int):=iu
  obtain⟨bj,pj,a,rfl,a',P,y0⟩:=(fd ro rt a6.out (iq _) r4).part (i:=m) z;replace y0:wr.cell? (bj,pj+m)=a:=by simpa[Uk] using y0
  obtain⟨up,oo,d,ip,v,n,N1,-,F3,-⟩:=Y.nm I;obtain⟨O,hO,am⟩:=Ue Y F3 a;have n2:wr.cell? (b,2)=some (.map (some d)):=by rw[uJ N1];rfl
  have aP:=jo N1;have g1:=Y.geo b _ I N1;have aA:d=b-1:=by simpa using g1.2.2
  have aB:=(Y.dom b _ I).2;have r2:R K wr (wr.putObj d O):=R.put (by rw[F3];simp) O;have HI:Hid (R K t (wr.putObj d O)/\J L B K (wr.putObj d O)/\R K w (wr.putObj d O)/\T7 (wr.putObj d O) b N/\Do K b w (wr.putObj d O)):=iB ⟨r4.trans (ii.refl K _) r2,am _ (iq _),r1.trans (ii.refl K _) r2,n1.keep (World.putObj_heap_other iu),fun x hx=>(World.putObj_heap_other iu).trans (o1 x hx)⟩;clear N1 F3 am r4 Y r1 n1 o1 r2 g1 aA aB I;go_wp2_with fail;exact⟨⟨m+1,z,rfl,HI.out⟩,by simp only[intOf];omega⟩
 have o:¬(m:Int)<(ys.length:Int):=iu
 obtain⟨aN,aO,d2,aQ,A2,m2,C,ac,N2,-,-,-,-,X,-⟩:=Y.nmF I;obtain⟨A3,m3,cc3,e3,aR⟩:=n1 _ N2;have aD:A2=A3/\m2=m3/\C=cc3:=by simpa using e3
 obtain⟨rfl,rfl,rfl⟩:=aD;have hM:=HB.out.2.2.2.1;have af:=aK.out;have f:ir 1 Uk wr ⟨A1,c1,ys⟩:=fd ro rt a6.out (iq _) r4;have aH:Hid (∀U,ik wr U->U.ownsRow B 9 1 (.slice A2 m2 C) m2 (ac.map Value.string)):=iB fun U hU=>⟨X.1,X.2.imp id fun⟨g',ao,an,h1,h2,h3,h4⟩=>⟨g',ao,an,h1,h2,(hU.below.block g' (Array.getElem?_eq_some_iff.1 h3).1).trans h3,h4⟩⟩
 have aM:Hid (∀v' T,T.ownsRow B 9 1 v' (m2+ys.length) (ac.map Value.string++ys.map Value.string)->wr.grownBy T (Value.slice A2 m2 C).ownBlock->(v'.ownBlock=(Value.slice A2 m2 C).ownBlock\/v'.ownBlock=some wr.heap.size)->(T.cell? (b,4)=(A2,m2,C)/\T.frozen? (b,4)=false/\Le (b+1) T)/\R K w (T.setCell (b,4) v')/\Xp L B K w b (N+TH l) (UG L (.mk A c l)) (.returned (.tuple #[])) (T.setCell (b,4) v')):=iB fun v' T ow gr hv=>by
  have aC:some b≠(Value.slice A2 m2 C).ownBlock:=fun e=>by
   obtain⟨_,_,_,_,_,_,_,_,M1,-,-,-,-,-,M7⟩:=Y.nmF I;have e9:=M1.symm.trans N2;injection e9 with e9
   injection e9 with e9
   have e8:=nQ (fun x:Array Value=>x[4]?) e9;simp only[List.getElem?_toArray,List.getElem?_cons_succ,List.getElem?_cons_zero,Option.some.injEq]at e8;rw[<- e8]at e;have:=M7 b e.symm;rw[I]at this;cases this
  have N3:iP T b 140 _:=(gr.block b (Y.dom b _ I).2 aC).trans N2;obtain⟨K2,k2,jj,rr,nn,oo⟩:=Y.grow I N2 (ys:=ac++ys) (by rw[s_];exact ow) gr hv;exact⟨⟨by rw[uJ N3];rfl,N3.frozen 4,N3.is_le⟩,r1.trans (ii.refl K _) rr,.inr ⟨rfl,K2,fun x hx=>k2 x (rO hx r1.size),jj,nn.mono iu,Do.trans HE.out.j o1 (ii.refl K _) oo,aI.out⟩⟩
 have c4:wr.cell? (b,4)=(A2,m2,C):=by rw[uJ N2];rfl
 have aE:=jo N2;have b4:B<=wr.heap.size:=Y.le;have aG:=iB (VA f);clear r4 Y r1 n1 o1 N2 X e3 I f;obtain⟨av,ab,a_,a9,a8⟩:=info_parts UJ;go_wp2_with (at_builtin;refine ka _ rfl (.tmp 77) (.tmp 78) 55 rfl B 9 av _ 1 _ underlying55 ab a_ a9 a8 rfl iI _ _ _ rfl (aH.out _ (iq _)) _ _ ys.length c1 (ys.map Value.string) rfl aG.out (by intro u hu;obtain⟨s_,_,rfl⟩:=yQ.1 hu;rfl) (by unfold maxLen;omega) iu iu ?_)
 intro v' T ow gr hv;obtain⟨A5,c5,rfl⟩:∃(A5:zA) (c5:Nat),v'=.slice A5 (m2+ys) c5:=by
  rcases ow.2 with⟨rfl,h⟩ | ⟨g',ao,an,rfl,-⟩
  ·exact⟨none,0,by rw[h]⟩
  exact⟨_,_,rfl⟩
 obtain⟨⟨f1,f2,f3⟩,aa⟩:=aM.out _ T ow gr (by simpa using hv);have HV:=iB aa;clear aa ow gr hv ab a_ a9 a8 c4 aE;go_wp2;go_end0;exact HV.out
end
mutual
theorem XW:∀x:AuT,XO x
 |.mk A c l=>VK (VW l)
theorem Wq:∀l:List AuT,∀x∈l,XO x
 |[],x,h=>by cases h
 |a::l,x,h=>by
  rcases uW.1 h with h | h
  ·rw[h];exact XW a
  exact Wq l x h
theorem X0:∀x:StT,XM x
 |.mk nm lo eq A c au ul ut=>U3 (Wq au)
theorem VW:∀l:List StT,∀x∈l,XM x
 |[],x,h=>by cases h
 |a::l,x,h=>by
  rcases uW.1 h with h | h
  ·rw[h];exact X0 a
  exact VW l x h
end
section
open Go.Lib
def Yi (xs:zO) (l:List iO):Prop:=∀(j:Nat) (d:iO),l[j]?=some d->xs[j*3]?=d.name/\xs[j*3+1]?=d.ty/\xs[j*3+2]?=(d.clock.A,d.clock.l,d.clock.c)
def Wt (xs:zO) (l:List iO):Prop:=xs.length=l*3/\(∀u∈xs,u.oneCell'=true)/\Yi xs l
theorem Wt.app {xs ys:zO} {a b:List iO} (h:Wt xs a) (h':Wt ys b):Wt (xs++ys) (a++b):=by
 obtain⟨i,g,f⟩:=h;obtain⟨n,m,k⟩:=h';refine⟨by rw[mo,mo];omega,fun u e=>?_,fun j s c=>?_⟩
 ·rcases ue.1 e with h | h
  ·exact g u h
  exact m u h
 rcases qa j a with d | d
 ·rw[wk d]at c
  rw[wk iu,wk iu,wk iu];exact f j s c
 rw[xK d]at c;rw[xK iu,xK iu,xK iu,i,show j*3-a.length*3=(j-a.length)*3 by omega,show j*3+1-a.length*3=(j-a)*3+1 by omega,show j*3+2-a.length*3=(j-a)*3+2 by omega];exact k _ s c
theorem Ur {w:yM} {b:Nat}:∀(l:List iO) (o:Nat),(∀(i:Nat) (y:iO),l[i]?=some y->jG w b (o+i*3) y)->∃xs,Wt xs l/\∀j u,xs[j]?=some u->w.cell? ⟨b,o+j,none⟩=some u
 |[],o,_=>⟨[],⟨rfl,fun u hu=>(by cases hu),fun j s hs=>(by simp at hs)⟩,fun j u hu=>(by simp at hu)⟩
 |s::l,o,h=>by
  obtain⟨xs,h1,h2⟩:=Ur l (o+3) fun i y hy=>by
   have:=h (i+1) y (by simpa using hy);rwa [show o+(i+1)*3=o+3+i*3 by omega]at this
  obtain⟨nm,ty,A,c,cl⟩:=s;have h0:=h 0 _ rfl;have k0:=h0.c0;have k1:=h0.c1;have k2:=h0.c2;simp only[zH,xP]at k0 k1 k2;refine⟨[.string nm,.int .i64 ty,.slice A cl c]++xs,Wt.app (a:=[⟨nm,ty,⟨A,c,cl⟩⟩]) ⟨rfl,fun u hu=>?_,fun j y hy=>?_⟩ h1,fun j u hu=>?_⟩
  ·simp only[uW,TC,or_false]at hu
   rcases hu with rfl | rfl | rfl<;>rfl
  ·cases j with
   |succ j=>simp at hy
   |zero=>simp at hy;subst hy;exact⟨rfl,rfl,rfl⟩
  match j with
  |0=>rw[<- (by simpa using hu:Value.string nm=u)];exact k0
  |1=>rw[<- (by simpa using hu:Value.int .i64 ty=u)];exact k1
  |2=>rw[<- (by simpa using hu:Value.slice A cl c=u)];exact k2
  |j+3=>rw[show o+(j+3)=o+3+j by omega];exact h2 j u (by simpa using hu)
theorem VI {w:yM} {A:zA} {c:Nat} {l:List iO} (h:ir 3 jG w ⟨A,c,l⟩):∃xs,Wt xs l/\oZ w w 3 A l xs:=by
 rcases h.cells with e | ⟨b,p,e,hlt,hc⟩
 ·obtain rfl:l=[]:=e
  exact⟨[],⟨rfl,fun u a=>(by cases a),fun j s f=>(by simp at f)⟩,rfl,fun i=>absurd i (Nat.lt_irrefl 0)⟩
 obtain rfl:A=some ⟨b,p,none⟩:=e;obtain⟨xs,d,g⟩:=Ur l p hc;exact⟨xs,d,d.1,fun _=>⟨_,rfl,hlt,fun j u a=>by rw[yb];exact g j u a⟩⟩
def TJ (w:yM) (B:Nat) (A:zA) (c:Nat) (l:List iO):Prop:=(A=none/\c=0/\l=[])\/∃(G:Nat) (cur:Array Value),A=some ⟨G,0,none⟩/\B<=G/\iP w G 77 cur/\l<=c/\c<=9223372036854775807/\Yi cur.toList l
section
variable {w w':yM} {B:Nat} {A:zA} {c n:Nat} {l:List iO}
theorem TJ.after (h:TJ w B A c l) (a:ik w w'):TJ w' B A c l:=
 h.imp id fun⟨G,cur,h1,h2,h3,h4⟩=>⟨G,cur,h1,h2,mZ (k:=a) h3,h4⟩
theorem TJ.row (h:TJ w B A c l) (hl:l.length<=1000000):ir 3 VO (old B w) ⟨A,c,l.map iO.name⟩:=by
 rcases h with⟨rfl,rfl,rfl⟩ | ⟨G,cur,rfl,h2,h3,h4,h5,h6⟩
 ·exact ir.nil _
 have a:iP (old B w) G 77 cur:=(lV w h2).trans h3;refine⟨.inr ⟨G,0,rfl,a.lt,fun i y b=>?_⟩,by simpa using h4,h5,by simp only[pE];omega⟩;rw[JL]at b;obtain⟨d,j,rfl⟩:=Option.map_eq_some_iff.1 b;obtain⟨g,f,e⟩:=h6 i d j;rw[t_];exact⟨by rw[a.cell,<- Array.getElem?_toList];exact g,_,_,_,_,by rw[a.cell,<- Array.getElem?_toList];exact f,by rw[a.cell,<- Array.getElem?_toList];exact e⟩
theorem TJ.set (h:TJ w B A c l) {k:Nat} {d:iO} (hd:l[k]?=some d):∃G:Nat,A=some ⟨G,0,none⟩/\B<=G/\G<w/\l<=c/\w.cell? (G,k*3)=d.name/\w.cell? (G,k*3+1)=d.ty/\w.cell? (G,k*3+2)=(d.clock.A,d.clock.l,d.clock.c)/\w.frozen? (G,k*3+2)=false/\∀A' c',TJ (w.setCell (G,k*3+2) (.slice A' d.clock.l c')) B A c (l.set k ⟨d.name,d.ty,⟨A',c',d.clock.l⟩⟩):=by
 have n:=(rq.1 hd).1;rcases h with⟨rfl,rfl,rfl⟩ | ⟨G,cur,rfl,h2,h3,h4,h5,h6⟩
 ·simp at hd
 obtain⟨i,g,f⟩:=h6 k d hd;refine⟨G,rfl,h2,h3.lt,h4,by rw[h3.cell,<- Array.getElem?_toList];exact i,by rw[h3.cell,<- Array.getElem?_toList];exact g,by rw[h3.cell,<- Array.getElem?_toList];exact f,h3.frozen _,fun A' c'=>.inr ⟨G,_,rfl,h2,h3.jx _ _,by rw[Gh];exact h4,h5,fun j e a=>?_⟩⟩;have b:=(rq.1 f).1;rw[Array.toList_setIfInBounds,I',I',I'];rw[I']at a;by_cases m:k=j
 ·subst m
  rw[iG rfl,iG n]at a;injection a with a
  subst a;rw[iV iu,iV iu,iG rfl,iG b];exact⟨i,g,rfl⟩
 rw[iV m]at a;rw[iV iu,iV iu,iV iu];exact h6 j e a
theorem TJ.of {v:Value} {xs:zO} (h:w.ownsRow B 77 3 v n xs) (hd:Wt xs l) (hn:n=l):∃A c,v=.slice A n c/\TJ w B A c l:=by
 subst hn;rcases h.2 with⟨rfl,h0⟩ | ⟨g,cap,cur,rfl,h1,h2,h3,h4,h5,h6⟩
 ·exact⟨none,0,by rw[h0],.inl ⟨rfl,rfl,List.length_eq_zero_iff.1 h0⟩⟩
 refine⟨_,_,rfl,.inr ⟨g,cur,rfl,h1,h2,h3,by unfold maxLen at h4;omega,fun j s a=>?_⟩⟩;have b:=(rq.1 a).1;have:=hd.2.2 j s a;rw[<- h6,List.getElem?_take,List.getElem?_take,List.getElem?_take,iG iu,iG iu,iG iu]at this;exact this
end
theorem Vy (w:yM) (n:Nat) (hn:n<=1000):Calls prog 137 #[(),n] w fun e w'=>(∃A c,e=.returned (.slice A 0 c)/\w'.ownsRow w.heap.size 77 3 (.slice A 0 c) 0 [])/\ik w w':=by
 obtain⟨i0,hi,hz0,hz1,hz2⟩:=info_parts NU;rcases Nat.eq_zero_or_pos n with h0 | h0
 ·subst h0
  go_in;go_wp2;go_ret;exact⟨⟨none,0,rfl,FL _ _ _ _⟩,zc⟩
 have hI:¬((n:Int)<0):=iu
 have hI2:(0:Int)<(n:Int):=iu
 have hr:=iB (fun W:yM=>run_append_nil_zeros (P:=prog) W 60 3 60 77 i0 _ .i64 .i64 underlying60 underlying3 hi hz0 n h0 (by rw[hz1];decide) iu (by rw[hz2];omega));go_in;go_wp2_with (at_builtin;refine Lib.wpList_append_run _ rfl (.tmp 20) (.tmp 21) 60 3 rfl (.slice none 0 0) (.int .i64 n) rfl rfl _ _ (hr.out _) ?_)
 go_ret;refine⟨⟨_,_,rfl,?_⟩,zc⟩;have h1:=grownCap_ge w n 0 77;exact (World.ownsRow_made w _ _ (js _) (grownCap_le_maxLen w n 0 77 (by unfold maxLen;omega)) (by rw[Array.size_append,size_zeroCells,size_zeroCells];show n*3+_*3=_;omega)).drew
end
theorem Uq {rs:List (nB iO)} {k:Nat} {r:nB iO} (h:rs[k]?=some r):(rs.take (k+1)).flatMap nB.l=(rs.take k).flatMap nB.l++r.l/\((rs.take k).flatMap nB.l).length+r.l.length<=(rs.flatMap nB.l).length:=by
 have a:(rs.take (k+1)).flatMap nB.l=(rs.take k).flatMap nB.l++r.l:=by
  rw[List.take_add_one,h,Fa];simp
 refine⟨a,?_⟩;have b:rs.flatMap nB.l=(rs.take (k+1)).flatMap nB.l++(rs.drop (k+1)).flatMap nB.l:=by rw[<- Fa,Gv]
 rw[b,a,mo,mo];omega
theorem T1 {w:yM} {rs:List (nB iO)} {bs cc:Nat} {ty:TypeId} {cs:Array Value} (hr:∀r∈rs,ir 3 jG w r) (hb:iP w bs ty cs) (hc:∀(i:Nat) (r:nB iO),rs[i]?=some r->cs[i]?=some r.val) (h3:rs.length<=3) (hl:(rs.flatMap nB.l).length<=1000) :
  Calls prog 98 #[.slice (some bs) rs.length cc] w fun e w'=>ik w w'/\∃A c,e=.returned (.slice A (rs.flatMap nB.l).length c)/\TJ w' w A c (rs.flatMap nB.l):=by
 obtain⟨i0,R,P,O,N⟩:=info_parts NU;obtain⟨fl,B⟩:=jt (rs.flatMap nB.l);rw[B]at hl⊢;have q:=iB B;clear B;have HG:=iB (fun (W:yM) (n:Nat) (h:n<=1000)=>Vy W n h);have HC:Hid (∀(k:Nat) (r:nB iO) (U:yM),rs[k]?=some r->ik w U->U.cell? (bs,k)=(r.A,r.l,r.c)/\Le (bs+1) U):=iB fun k r U h hU=>by
  have X:=mZ (k:=hU) hb;exact⟨by rw[X.cell];exact hc k r h,X.is_le⟩
 have HR:=iB hr;clear hr hb hc;go_in;go_wp2_with fail;go_loopw [3,11] (fun s i wr=>∃(k m:Nat),k<=rs.length/\i=.int .i64 (k:Nat)/\s=.int .i64 (m:Nat)/\Hid (m=((rs.take k).flatMap nB.l).length)/\ik w wr) (fun _ i _=>rs.length-(intOf i).toNat)
 ·exact⟨0,0,by omega,rfl,rfl,rfl,iq w⟩
 case round=>
 obtain⟨k,m,hk,rfl,rfl,p,o⟩:=hrel;by_cases f:k<rs
 ·have d:(k:Int)<(rs:Int):=iu
  obtain⟨r,hr⟩:∃r,rs[k]?=some r:=⟨_,qn f⟩;obtain⟨c0,cl⟩:=HC.out k r wr hr o;have t:=Uq hr;rw[q.out]at t;have z:Hid (m+r.l=((rs.take (k+1)).flatMap nB.l).length):=by show _=_;rw[t.1,mo,p.out]
  have hb:m+r.l<=1000:=by have:=p.out;omega
  have V:¬((m:Int)+(r.l:Int)<0):=iu
  clear t;go_wp2_with fail;exact⟨⟨k+1,m+r.l,f,rfl,by go_num,z,o⟩,by simp only[intOf];omega⟩
 have d:¬(k:Int)<(rs:Int):=iu
 have a:m<=1000:=by
  have:=p.out;rw[Dn iu,q.out]at this;omega
 have T:=iB (HG.out wr m a);go_wp2_with fail;refine (T.out).mono ?_;rintro e w1 ⟨⟨A1,c1,rfl,b⟩,K⟩;have J:=ij o K;have HO:Hid (w1.ownsRow w 77 3 (.slice A1 0 c1) 0 []):=⟨b.1,b.2.imp id fun⟨g,I,H,S,h2,h3⟩=>⟨g,I,H,S,jW o.below.size h2,h3⟩⟩;clear b K p a;go_wp2_with fail;go_loopw [6,27] (fun v i wr=>∃(k m:Nat) (A:zA) (c:Nat),k<=rs.length/\i=.int .i64 (k:Nat)/\v=.slice A m c/\Hid (m=((rs.take k).flatMap nB.l).length)/\ik w wr/\Hid (∃y,wr.ownsRow w.heap.size 77 3 (.slice A m c) m y/\Wt y ((rs.take k).flatMap nB.l))) (fun _ i _=>rs.length-(intOf i).toNat)
 ·exact⟨0,0,A1,c1,by omega,rfl,rfl,rfl,J,[],HO.out,rfl,fun u hu=>(by cases hu),fun j s hs=>(by simp at hs)⟩
 case round=>
 clear o J HO;obtain⟨k,m,A,c,hk,rfl,rfl,p,o,HX⟩:=hrel;obtain⟨y,b,G⟩:=HX.out;by_cases f:k<rs
 ·have d:(k:Int)<(rs:Int):=iu
  obtain⟨r,hr⟩:∃r,rs[k]?=some r:=⟨_,qn f⟩;obtain⟨c0,cl⟩:=HC.out k r wr hr o;have t:=Uq hr;rw[q.out]at t;have z:Hid (m+r.l=((rs.take (k+1)).flatMap nB.l).length):=by show _=_;rw[t.1,mo,p.out]
  have hb:m+r.l<=1000:=by have:=p.out;omega
  obtain⟨ys,Q,E⟩:=VI ((HR.out r (om hr)).below iM o.below);have C:=G.app Q;rw[<- t.1]at C;have L:=iB C;have S:=Q.2.1;have D:=iB (And.intro b E);have a0:=o.below.size;clear t C Q E b G;go_wp2_with (at_builtin;refine ka _ rfl (.tmp 31) (.tmp 32) 60 rfl w 77 i0 _ 3 _ underlying60 R P O N rfl iI _ _ y rfl D.out.1 _ _ r.l r.c ys rfl D.out.2 S (by unfold maxLen;omega) iu iu ?_)
  intro v' w1 b Y hv;have K:ik w w1:=AC o Y fun g e=>(World.ownsRow.lt D.out.1 g e).1
  obtain⟨M,c5,rfl⟩:∃(M:zA) (c5:Nat),v'=.slice M (m+r.l) c5:=by
   rcases b.2 with⟨rfl,h⟩ | ⟨g',I,H,rfl,-⟩
   ·exact⟨none,0,by rw[h]⟩
   exact⟨_,_,rfl⟩
  have HN:Hid (∃y,w1.ownsRow w.heap.size 77 3 (.slice M (m+r.l) c5) (m+r.l) y/\Wt y ((rs.take (k+1)).flatMap nB.l)):=iB ⟨_,b,L.out⟩;clear b Y hv;go_wp2_with fail;exact⟨⟨k+1,m+r.l,M,c5,f,rfl,rfl,z,K,HN.out⟩,by simp only[intOf];omega⟩
 have d:¬(k:Int)<(rs:Int):=iu
 have a:=p.out;rw[Dn iu,q.out]at a G;obtain⟨A',c',Z,F⟩:=TJ.of b G a;have e2:A=A'/\c=c':=by simpa using Z
 obtain⟨rfl,rfl⟩:=e2;have L:=iB (And.intro a F);clear b G p F Z a;go_wp2;go_ret;exact⟨o,A,c,by rw[<- L.out.1];rfl,L.out.2⟩
theorem Un {α:Type}:∀{l:List α} {k:Nat} {x:α},l[k]?=some x->l.set k x=l
 |[],k,x,h=>rfl
 |a::l,0,x,h=>by simp at h;rw[h];rfl
 |a::l,k+1,x,h=>by rw[oq,Un (by simpa using h)]
theorem UP {w:yM} {b:Nat}:∀(l:List sO) (o:Nat),(∀(i:Nat) (y:sO),l[i]?=some y->KJ w b (o+i*3) y)->∃xs:zO,xs.length=l*3/\(∀u∈xs,u.oneCell'=true)/\∀j u,xs[j]?=some u->w.cell? ⟨b,o+j,none⟩=some u
 |[],o,_=>⟨[],rfl,fun u hu=>(by cases hu),fun j u hu=>(by simp at hu)⟩
 |s::l,o,h=>by
  obtain⟨xs,h1,h2,h3⟩:=UP l (o+3) fun i y hy=>by
   have:=h (i+1) y (by simpa using hy);rwa [show o+(i+1)*3=o+3+i*3 by omega]at this
  obtain⟨nm,t,g⟩:=s;have h0:=h 0 _ rfl;have k0:=h0.c0;have k1:=h0.c1;have k2:=h0.c2;simp only[zH,xP]at k0 k1 k2;refine⟨[.string nm,.int .i64 t,.int .i64 g]++xs,by simp[h1];omega,fun u hu=>?_,fun j u hu=>?_⟩
  ·rcases ue.1 hu with hu | hu
   ·simp only[uW,TC,or_false]at hu
    rcases hu with rfl | rfl | rfl<;>rfl
   exact h2 u hu
  match j with
  |0=>rw[<- (by simpa using hu:Value.string nm=u)];exact k0
  |1=>rw[<- (by simpa using hu:Value.int .i64 t=u)];exact k1
  |2=>rw[<- (by simpa using hu:Value.int .i64 g=u)];exact k2
  |j+3=>rw[show o+(j+3)=o+3+j by omega];exact h3 j u (by simpa using hu)
theorem U5 {w:yM} {A:zA} {c:Nat} {l:List sO} (h:ir 3 KJ w ⟨A,c,l⟩) (hl:l.length<=1000):Calls prog 99 #[(A,l,c)] w fun e w'=>ik w w'/\∃A' c',e=.returned (.slice A' l c'):=by
 obtain⟨z,m,k,i,f⟩:=info_parts Jp;have F:∀(w:yM) (a:zA) (n c:Nat),(binOp .eql 75 (.slice a n c) (.slice none 0 0)).run prog w=.ok (.bool a.isNone) w:=fun w a n c=>Lib.run_eql_slice_nil w _ _ a n c 0 0 underlying75
 rcases h.cells with e | ⟨b,p,e,hlt,hc⟩
 ·obtain rfl:l=[]:=e
  cases A with
  |none=>
   clear h;go_in;go_wp2;go_ret;exact⟨zc,none,0,rfl⟩
  |some ad=>
  clear h;have v:Hid ((w.alloc (.cells #[] 178)).ownsRow w 178 3 (.slice w 0 0) 0 []):=World.ownsRow_made w #[] 0 (js _) (wB _) rfl;have t:Hid (oZ (w.alloc (.cells #[] 178)) 0 3 (some ad) 0 []):=⟨rfl,fun E=>absurd E (Nat.lt_irrefl 0)⟩;go_in;go_wp2_with (at_builtin;refine ka _ rfl (.tmp 5) (.tmp 6) 75 rfl w 178 z _ 3 _ underlying75 m k i f rfl iI _ _ _ rfl v.out _ _ 0 c [] rfl t.out (by intro u hu;cases hu) iI iu (by simp) ?_)
  intro r w1 d o s;have x:ik w w1:=AC (w:=w.alloc (.cells #[] 178)) zc o fun g e=>by cases e;exact js _
  obtain⟨q,c5,rfl⟩:∃(q:zA) (c5:Nat),r=.slice q 0 c5:=by
   rcases d.2 with⟨rfl,h⟩ | ⟨g',cap,cur,rfl,-⟩
   ·exact⟨none,0,rfl⟩
   exact⟨_,_,rfl⟩
  clear d o s;go_wp2;go_ret;exact⟨x,_,_,rfl⟩
 obtain rfl:A=some ⟨b,p,none⟩:=e;obtain⟨y,C,D,B⟩:=UP l p hc;have v:Hid ((w.alloc (.cells #[] 178)).ownsRow w 178 3 (.slice w 0 0) 0 []):=World.ownsRow_made w #[] 0 (js _) (wB _) rfl;have t:Hid (oZ (w.alloc (.cells #[] 178)) w.heap.size 3 (some (b,p)) l.length y):=⟨C,fun _=>⟨_,rfl,hlt,fun j u hu=>by
  rw[yb];exact (mH (show Below w.heap.size w (w.alloc (.cells #[] 178)) from (show ik w _ by infer_instance).below) hlt).trans (B j u hu)⟩⟩
 clear h hc C B;go_in;go_wp2_with (at_builtin;refine ka _ rfl (.tmp 5) (.tmp 6) 75 rfl w 178 z _ 3 _ underlying75 m k i f rfl iI _ _ _ rfl v.out _ _ l c y rfl t.out D (by unfold maxLen;omega) iu (by simp) ?_)
 intro r w1 d o s;have x:ik w w1:=AC (w:=w.alloc (.cells #[] 178)) zc o fun g e=>by cases e;exact js _
 obtain⟨q,c5,rfl⟩:∃(q:zA) (c5:Nat),r=.slice q l c5:=by
  rcases d.2 with⟨rfl,h⟩ | ⟨g',cap,cur,rfl,-⟩
  ·exact⟨none,0,by rw[show l.length=0 by omega]⟩
  exact⟨_,_,rfl⟩
 clear d o s;go_wp2;go_ret;exact⟨x,_,_,rfl⟩
theorem UI {w:yM} {nm:yB} {iA oA lA:zA} {ic oc lc:Nat} {il ol ll:List iO} (hi:ir 3 jG w ⟨iA,ic,il⟩) (ho:ir 3 jG w ⟨oA,oc,ol⟩) (hl:ir 3 jG w ⟨lA,lc,ll⟩) (hn:(il++ol++ll).length<=1000) (hk:∀d∈il++ol++ll,d.clock.l.length<=1000) (v4 v5 v6 v7:Value) :
  Calls prog 61 #[.agg #[nm,(iA,il,ic),(oA,ol,oc),(lA,ll,lc),v4,v5,v6,v7]] w fun e w'=>ik w w'/\∃(A:zA) (c:Nat) (zs:List yB),zs=(il++ol++ll).map iO.name/\e=.returned (.slice A zs c)/\ir 3 VO (old w w') ⟨A,c,zs⟩:=by
 obtain⟨fl,p⟩:=jt (il++ol++ll);rw[p]at hn hk⊢;obtain⟨B,a8,Z,I⟩:∃W,w.alloc (.cells #[nm,(iA,il,ic),(oA,ol,oc),(lA,ll,lc),v4,v5,v6,v7] 65)=W/\ik w W/\iP W w 65 #[nm,(iA,il,ic),(oA,ol,oc),(lA,ll,lc),v4,v5,v6,v7]:=⟨_,rfl,zc,jC ..⟩;obtain⟨W1,a7,Y,B1⟩:∃W,B.alloc (.cells #[(iA,il,ic),(oA,ol,oc),(lA,ll,lc)] 60)=W/\ik B W/\iP W B 60 #[(iA,il,ic),(oA,ol,oc),(lA,ll,lc)]:=⟨_,rfl,zc,jC ..⟩;have g:=ij Z Y;have t:(([⟨iA,ic,il⟩,⟨oA,oc,ol⟩,⟨lA,lc,ll⟩]:List (nB iO)).flatMap nB.l)=fl:=by
  rw[<- p];simp
 have K:=T1 (w:=W1) (rs:=[⟨iA,ic,il⟩,⟨oA,oc,ol⟩,⟨lA,lc,ll⟩]) (cc:=3) (fun r o=>by
  simp only[uW,TC,or_false]at o;rcases o with rfl | rfl | rfl
  ·exact hi.below iM g.below
  ·exact ho.below iM g.below
  exact hl.below iM g.below) B1 (fun i r o=>by
  match i with
  |0=>simp at o;subst o;rfl
  |1=>simp at o;subst o;rfl
  |2=>simp at o;subst o;rfl
  |i+3=>simp at o) (by simp) (by rw[t];exact hn)
 rw[t]at K;have S:Hid (∀d∈fl,ir 3 KJ w d.clock/\d.clock.l.length<=1000):=iB fun d b=>by
  refine⟨?_,hk d b⟩;rw[<- p]at b;rcases ue.1 b with b | b
  ·rcases ue.1 b with b | b
   ·obtain⟨j,y⟩:=List.mem_iff_getElem?.1 b
    obtain⟨_,_,h⟩:=hi.elem y;exact h.cl
   obtain⟨j,y⟩:=List.mem_iff_getElem?.1 b;obtain⟨_,_,h⟩:=ho.elem y;exact h.cl
  obtain⟨j,y⟩:=List.mem_iff_getElem?.1 b;obtain⟨_,_,h⟩:=hl.elem y;exact h.cl
 have K:=iB K;have L:w.heap.size<=W1:=g.below.size;have q1:B.cell? (w,1)=(iA,il,ic):=by rw[uJ I];rfl
 have q2:B.cell? (w,2)=(oA,ol,oc):=by rw[uJ I];rfl
 have q3:B.cell? (w,3)=(lA,ll,lc):=by rw[uJ I];rfl
 have ql:=jo I;clear hi ho hl hk p t I B1 Z Y;go_in;go_wp2_with fail;refine (K.out).mono ?_;rintro e w2 ⟨z,A,c,rfl,n⟩;have V:=ij g z;have HD:Hid (TJ w2 w A c fl):=iB (n.imp id fun⟨G,N,h1,h2,h3⟩=>⟨G,N,h1,jW L h2,h3⟩);clear n z g q1 q2 q3 ql;go_wp2_with fail;go_loopw [16] (fun i wr=>∃(k:Nat) (a:List iO),k<=fl.length/\i=.int .i64 (k:Nat)/\ik w wr/\Hid (TJ wr w.heap.size A c a/\a.length=fl.length/\a.map iO.name=fl.map iO.name/\∀j,k<=j->a[j]?=fl[j]?)) (fun i _=>fl.length-(intOf i).toNat)
 ·exact⟨0,fl,by omega,rfl,V,HD.out,rfl,rfl,fun _ _=>rfl⟩
 case round=>
 clear V HD;obtain⟨k,a,hk,rfl,X,q⟩:=hrel;by_cases D:k<fl
 ·have C:(k:Int)<(fl:Int):=iu
  obtain⟨d,b⟩:∃d,fl[k]?=some d:=⟨_,qn D⟩;have f:=(q.out.2.2.2 k (js _)).trans b;obtain⟨G,rfl,F,g2,g3,y0,y1,y2,-,-⟩:=q.out.1.set f;obtain⟨W2,a6,z,T⟩:∃W,wr.alloc (.cells #[.string d.name,.int .i64 d.ty,.slice d.clock.A d.clock.l d.clock.c] 77)=W/\ik wr W/\iP W wr 77 #[.string d.name,.int .i64 d.ty,.slice d.clock.A d.clock.l d.clock.c]:=⟨_,rfl,zc,jC ..⟩;have d2:W2.cell? (wr,2)=some (.slice d.clock.A d.clock.l d.clock.c):=by rw[uJ T];rfl
  have dl:=jo T;have M:=S.out d (om b);have H:=ij X z;have R:=iB (U5 (M.1.below qF H.below) M.2);have lG:Le (G+1) wr:=⟨g2⟩;have Q:=iB (And.intro b (And.intro f (And.intro F (q.out.1.after z))));have E:=q.out.2.1;have a9:k<c:=iu
  have a5:k*3+2<c*3:=iu
  clear b f M T z F;go_wp2_with fail;refine (R.out).mono ?_;rintro e w3 ⟨O,v,u,rfl⟩;obtain⟨b,f,F,n⟩:=Q.out;obtain⟨G',J,g4,U,g6,z0,z1,z2,z3,s⟩:=(n.after O).set f;obtain rfl:G=G':=by injection J with J;injection J
  have a4:Le (G+1) w3:=⟨U⟩;have hW:ik w (w3.setCell (G,k*3+2) (.slice v d.clock.l u)):=pQ (h:=ij H O) (k:=⟨F⟩) _ _;have HS:Hid (TJ (w3.setCell (G,k*3+2) (.slice v d.clock.l u)) w.heap.size (some G) c (a.set k ⟨d.name,d.ty,⟨v,u,d.clock.l⟩⟩)/\(a.set k ⟨d.name,d.ty,⟨v,u,d.clock.l⟩⟩).length=fl.length/\(a.set k ⟨d.name,d.ty,⟨v,u,d.clock.l⟩⟩).map iO.name=fl.map iO.name/\∀j,k+1<=j->(a.set k ⟨d.name,d.ty,⟨v,u,d.clock.l⟩⟩)[j]?=fl[j]?):=by
   refine⟨s v u,by rw[Gh];exact E,?_,fun j y=>by rw[List.getElem?_set_ne iu];exact q.out.2.2.2 j iu⟩;rw[List.map_set,<- q.out.2.2.1];refine Un ?_;rw[JL,f];rfl
  clear b f F n s g4 U J O;go_wp2_with fail;exact⟨⟨k+1,_,D,by go_num,hW,HS.out⟩,by simp only[intOf];omega⟩
 have C:¬(k:Int)<(fl:Int):=iu
 have m:=q.out.1.row (by rw[q.out.2.1];omega);rw[q.out.2.2.1]at m;have P:=iB m;clear m;go_wp2;go_ret;exact⟨X,A,c,rfl,P.out⟩
theorem jp.nm (K:Yd) (n:Nat):jp K n (n+2)=some .nm:=by unfold jp;rw[iV iu,iV iu,iG rfl]
theorem jp.kle (K:Yd) (n:Nat):ii K (jp K n) n:=fun x hx=>jp.at hx
section
variable {L:List (Int×yB)} {B:Nat} {K K' K1 K2:Yd} {w w' D W1:yM} {b b1 g sq:Nat} {pe:Value} {nd q:Int} {nA:zA} {nc:Nat} {nl:List nh} {N M:Nat}
theorem T2 (E:IO L B K w D g sq pe nA nl nc nd q) {i:Nat} (hi:i<=nl) {xA:zA} {xc:Nat} {xl:List Tx} (hx:ir 6 (Bu True) D ⟨xA,xc,xl⟩) {rs:List (nB iO)} (hr:∀r∈rs,ir 3 jG w r) {bs cc:Nat} {ty:TypeId} {cs:Array Value} (hb:iP w bs ty cs) (hc:∀(i:Nat) (r:nB iO),rs[i]?=some r->cs[i]?=some r.val) (h3:rs.length<=3) (hl:(rs.flatMap nB.l).length<=1000) (hnm:∀d∈rs.flatMap nB.l,((0:Int),d.name)∉L) :
  Calls prog 65 #[.pointer g,(i:Nat),.slice xA xl xc,.slice (some bs) rs.length cc] w fun e w'=>R K w w'/\(Yj e\/(ik w w'/\e=.returned (.tuple #[])/\∀x∈xl,Ul L x)):=by
 have Y:=iB (TG E.j none (.inl rfl));have HC:=iB (fun U (hU:ik w U)=>T1 (w:=U) (cc:=cc) (fun r h=>(hr r h).below iM hU.below) (mZ (k:=hU) hb) hc h3 hl);obtain⟨S,a8⟩:=jt (rs.flatMap nB.l);rw[a8]at HC hl hnm;have HE:=iB E;have HX:=iB (And.intro hx (And.intro hi hnm));have a':=hx.len;simp only[]at a';clear E hx hr hb hc hnm hi a8 h3;go_in;go_wp2_with fail;refine (Y.out).mono ?_;rintro e w1 ⟨rfl,a1,j1,B1⟩;go_wp2_with fail;refine (HC.out w1 a1).mono ?_;rintro e H ⟨p,A,c,rfl,a9⟩;obtain⟨m,Q⟩:=jt (jp K w.heap.size);obtain⟨o,P⟩:=jt (w.heap.size+2);have a6:m o=some .nm:=by rw[<- Q,<- P];exact jp.nm _ _
 have M:ii K m w:=by rw[<- Q];exact jp.kle _ _
 rw[Q]at j1;rw[P]at B1⊢;have E1:IO L B m H D g sq pe nA nl nc nd q:=HE.out.step M (j1.after p) (R.of (ij a1 p));have BN:=mZ (k:=p) B1;have N1:T7 H o 0:=fun cs hc=>by
  have:=BN.symm.trans hc;injection this with this
  injection this with this
  rw[<- this];exact⟨none,0,0,rfl,js _⟩
 have Z:=a9.row iu;have z:ir 3 VO (V m H) ⟨A,c,S.map iO.name⟩:=Z.sub FS (nO H fun b h=>by
  cases hk:m b with
  |none=>rw[hk]at h;cases h
  |some k=>exact (j1.dom b k hk).2)
 have X:Hid (m o=some .nm/\ik w H/\o=w+2/\ii K m w):=iB ⟨a6,ij a1 p,P.symm,M⟩;have f:=iB E1;have ac:=iB z;have aa:Hid (ik D (V m H)):=iB E1.d;have ae:Hid (∀N K2 wr,TQ L B m H o N K2 wr->∀U,R K2 wr U->R K w U):=iB fun N K2 wr i U r=>(R.of X.out.2.1).trans M (i.r.trans i.k r)
 have I1:=iB (TQ.start E1.j N1);have ah:S.length<=1000:=hl;have ag:(S.map iO.name).length=S.length:=pE _;clear j1 B1 BN N1 E1 a6 M Z z a9 a1 p Y HC P Q;go_wp2_with fail;go_loopw [17] (fun i wr=>∃k:Nat,k<=S.length/\i=.int .i64 (k:Nat)/\Hid (TQ L B m H o 0 m wr)) (fun i _=>S.length-(intOf i).toNat)
 ·exact⟨0,by omega,rfl,I1.out⟩
 case round=>
 obtain⟨k,hk,rfl,J⟩:=hrel;by_cases F:k<S
 ·have C:(k:Int)<(S:Int):=iu
  obtain⟨bj,pj,yj,rfl,a5,a3,y0,t,A',n',c',y1,y2⟩:=(fd uI FS ac.out (iq _) J.out.r).part (i:=k) (by simp only[];omega);have a4:((0:Int),yj)∉L:=by
   have h:=a3.out;simp only[]at h;rw[JL]at h;obtain⟨d,hd,rfl⟩:=Option.map_eq_some_iff.1 h;exact HX.out.2.2 d (om hd)
  obtain⟨I,ab,p,u⟩:∃W,wr.alloc (.cells #[yj,t,(A',n',c')] 77)=W/\ik wr W/\iP W wr 77 #[yj,t,(A',n',c')]:=⟨_,rfl,zc,jC ..⟩;have d0:I.cell? wr=yj:=by rw[uJ u];rfl
  have dl:=jo u;have G:=J.out.after f.out.j X.out.1 p;have a0:=G.nm f.out.j X.out.1;obtain⟨up,oo,d,ip,v,n,N1,F2,-,-⟩:=G.j.nm a0;obtain⟨O,hO,a_⟩:=Vj G.j F2 yj a4;have n1:I.cell? (o,1)=some (.map (some oo)):=by rw[uJ N1];rfl
  have af:=jo N1;have Y:Hid (∀U,ik I U->TQ L B m H o 0 m (U.putObj oo O)):=iB fun U hU=>by
   have I4:=G.after f.out.j X.out.1 hU;have g1:=G.j.geo o _ a0 N1;have ho:oo=o-2:=by simpa using g1.2.1
   exact I4.step f.out.j (ii.refl _ _) (a_ U hU) (R.put (by rw[F2];simp) O) (I4.n.keep (World.putObj_heap_other iu)) (fun x hx=>World.putObj_heap_other iu)
  clear G a0 N1 F2 a_ a4 u p;go_wp2_with fail;go_region;go_wp2_with fail;exact⟨⟨k+1,F,rfl,Y.out _ zc⟩,by simp only[intOf];omega⟩
 have C:¬(k:Int)<(S:Int):=iu
 go_wp2_with fail;go_loopw [30] (fun i wr=>∃k:Nat,k<=xl.length/\i=.int .i64 (k:Nat)/\Hid (TQ L B m H o 0 m wr/\∀x∈xl.take k,Ul L x)) (fun i _=>xl.length-(intOf i).toNat)
 ·exact⟨0,by omega,rfl,J.out,fun d hd=>by cases hd⟩
 case round=>
 clear J;obtain⟨k,hk,rfl,J⟩:=hrel;by_cases F:k<xl
 ·have C:(k:Int)<(xl:Int):=iu
  obtain⟨bj,pj,yj,rfl,a5,a3,a⟩:=(fd nH yO HX.out.1 aa.out J.out.1.r).part (i:=k) F;obtain⟨ek,eo,et,ev,es,eA,ec,T⟩:=yj;have y0:wr.cell? (bj,pj+k*6)=ek:=a.six.c0;have y1:wr.cell? (bj,pj+k*6+1)=eo:=a.six.c1;have y2:wr.cell? (bj,pj+k*6+2)=et:=a.six.c2;have y3:wr.cell? (bj,pj+k*6+3)=ev:=a.six.c3;have y4:wr.cell? (bj,pj+k*6+4)=es:=a.six.c4;have y5:wr.cell? (bj,pj+k*6+5)=(eA,T,ec):=a.six.c5;obtain⟨I,ab,p,u⟩:∃W,wr.alloc (.cells #[ek,eo,et,ev,es,(eA,T,ec)] 73)=W/\ik wr W/\iP W wr 73 #[ek,eo,et,ev,es,(eA,T,ec)]:=⟨_,rfl,zc,jC ..⟩;have d0:I.cell? wr=ek:=by rw[uJ u];rfl
  have d1:I.cell? (wr,1)=eo:=by rw[uJ u];rfl
  have d2:I.cell? (wr,2)=et:=by rw[uJ u];rfl
  have d3:I.cell? (wr,3)=ev:=by rw[uJ u];rfl
  have d4:I.cell? (wr,4)=es:=by rw[uJ u];rfl
  have d5:I.cell? (wr,5)=(eA,T,ec):=by rw[uJ u];rfl
  have dl:=jo u;have G:=J.out.1.after f.out.j X.out.1 p;have E2:=G.env f.out;have HS:=iB (Ug (ms (b:=o) E2.h E2.j E2.s (G.nm f.out.j X.out.1) E2.n E2.d HX.out.2.1 (a.rx.below p.below) a.tb 1));have HI:=iB G;clear a G E2 u p;go_wp2_with fail;refine (HS.out).mono ?_;rintro e w7 ⟨a7,hp⟩;rcases hp with⟨x,y,E,hE,rfl⟩ | ⟨rfl,hp⟩
  ·have HP:=iB (And.intro (ae.out _ _ _ HI.out _ (R.of a7)) hE)
   clear hE;unfold mt;go_wp2_with fail;exact⟨rfl,HP.out.1,.inl ⟨_,_,_,HP.out.2,rfl⟩⟩
  have HP:=iB (And.intro (HI.out.after f.out.j X.out.1 a7) (lm J.out.2 a3.out hp));clear hp a7;go_wp2_with fail;exact⟨⟨k+1,F,rfl,HP.out⟩,by simp only[intOf];omega⟩
 have C:¬(k:Int)<(xl:Int):=iu
 have HP:Hid (ik w wr/\∀x∈xl,Ul L x):=iB ⟨J.out.1.all X.out.2.1 X.out.2.2.1,li J.out.2 F⟩;go_wp2;go_end0;exact⟨R.of HP.out.1,.inr ⟨HP.out.1,rfl,HP.out.2⟩⟩
end
theorem Wf (x:yB):∀(zs:List yB) (i n:Nat),zs.Nodup->zs[n]?=some x->Lib.idxFromS zs x i=((i+n:Nat):Int)
 |[],i,n,_,h=>by simp at h
 |z::zs,i,0,_,h=>by
  simp at h;subst h;simp[Lib.idxFromS]
 |z::zs,i,n+1,hd,h=>by
  have h1:=List.nodup_cons.1 hd;have hm:zs[n]?=some x:=by simpa using h
  have hne:z≠x:=fun e=>h1.1 (by rw[e];exact om hm)
  have:=Wf x zs (i+1) n h1.2 hm;rw[Lib.idxFromS,iV hne,this];congr 1;omega
theorem Vf (x:yB):∀(l:List iW) (j i n:Nat) (u:iW),(l.flatMap fun u=>u.tags.l).Nodup->l[i]?=some u->u.tags.l[n]?=some x->AB x l j=some (3+((j+i:Nat):Int),(n:Int))
 |[],j,i,n,u,_,h,_=>by simp at h
 |a::l,j,0,n,u,hd,h,hx=>by
  simp at h;subst h;rw[pZ]at hd;have:=Wf x _ 0 n (List.nodup_append.1 hd).1 hx;have e:Lib.idxOfS a.tags.l x=(n:Int):=by show Lib.idxFromS _ _ 0=_;rw[this,t_]
  rw[AB,e,iG iu,xP]
 |a::l,j,i+1,n,u,hd,h,hx=>by
  rw[pZ]at hd;have h1:=List.nodup_append.1 hd;have hm:l[i]?=some u:=by simpa using h
  have hno:¬0<=Lib.idxOfS a.tags.l x:=fun h0=>h1.2.2 x ((Lib.idxOfS_nonneg_iff _ _).1 h0) x (List.mem_flatMap.2 ⟨u,om hm,om hx⟩) rfl
  rw[AB,iV hno,Vf x l (j+1) i n u h1.2.1 hm hx];congr 3;omega
theorem Ve (x:yB):∀(l:List iW) (j:Nat),x∉(l.flatMap fun u=>u.tags.l)->AB x l j=none
 |[],j,_=>rfl
 |a::l,j,h=>by
  rw[pZ,ue,not_or]at h;rw[AB,iV (fun h0=>h.1 ((Lib.idxOfS_nonneg_iff _ _).1 h0)),Ve x l _ h.2]
theorem Vo:∀(l:List iW) (j i:Nat) (u:iW),(l.map iW.name).Nodup->l[i]?=some u->uv u.name l j=some (j+i)
 |[],j,i,u,_,h=>by simp at h
 |a::l,j,0,u,_,h=>by
  simp at h;subst h;simp[uv]
 |a::l,j,i+1,u,hd,h=>by
  rw[mJ]at hd;have h1:=List.nodup_cons.1 hd;have hm:l[i]?=some u:=by simpa using h
  rw[uv,iV (fun e=>h1.1 (by rw[e];exact xL (om hm))),Vo l (j+1) i u h1.2 hm];congr 1;omega
theorem Vl:∀(l:List yB) (j i:Nat) (s:yB),l.Nodup->l[i]?=some s->vM s l j=some (j+i)
 |[],j,i,s,_,h=>by simp at h
 |a::l,j,0,s,_,h=>by
  simp at h;subst h;simp[vM]
 |a::l,j,i+1,s,hd,h=>by
  have h1:=List.nodup_cons.1 hd;have hm:l[i]?=some s:=by simpa using h
  rw[vM,iV (fun e=>h1.1 (by rw[e];exact om hm)),Vl l (j+1) i s h1.2 hm];congr 1;omega
structure rd (el:List iW) (L:List (Int×yB)):Prop where
 t:(el.flatMap fun u=>u.tags.l).Nodup
 n:(el.map iW.name).Nodup
 l:∀s∈(el.flatMap fun u=>u.tags.l),((0:Int),s)∈L
section
variable {el:List iW} {L:List (Int×yB)}
theorem rd.res (g:rd el L) {t v:Int} (h3:3<=t) (hv:nq el t v=true):FV el t v:=by
 unfold nq jV at hv;rw[iV iu,iV iu,iV iu,iG h3]at hv;simp only[mT,decide_eq_true_eq]at hv;obtain⟨c,a⟩:=hv;cases hu:el[(t-3).toNat]? with
 |none=>rw[hu]at a;simp at a;omega
 |some u=>
 rw[hu]at a;simp only[]at a;have b:v.toNat<u.tags.l:=iu
 refine⟨u.tags.l[v.toNat],?_⟩;show AB _ el 0=_
 rw[Vf _ el 0 (t-3).toNat v.toNat u g.t hu (qn b)];congr 2<;>omega
theorem rd.ty (g:rd el L) {t:Int} (h:0<jV el t):Tf el t:=fun h3=>by
 unfold jV at h;rw[iV iu,iV iu,iG h3]at h;cases hu:el[(t-3).toNat]? with
 |none=>rw[hu]at h;simp at h
 |some u=>exact⟨u.name,_,Vo el 0 _ u g.n hu,by omega⟩
theorem rd.qx (g:rd el L) (hl:el.length<=24) {k o t v:Int} {s:yB} {n:Nat} (h:NG el k o t v s n) (hn:k=2->((0:Int),s)∉L):Qx el k o t v s n:=by
 have a:qS el t->t<=2000:=fun h=>by unfold qS at h;omega
 obtain⟨e,h⟩:=h;refine⟨?_,fun b c=>?_,fun b=>?_,fun b c=>?_,fun b c j f=>?_⟩
 ·rcases h with h | h | h | h | h | h | h | h
  ·exact a h.2.2.2.2.1
  ·omega
  ·omega
  ·omega
  ·exact a h.2.2.2.2.1
  ·exact a h.2.2.2.2.1
  ·omega
  omega
 ·subst b
  rcases h with h | h | h | h | h | h | h | h
  ·exact g.res c h.2.2.2.2.2
  all_goals exact absurd h.1 iu
 ·show AB s el 0=none
  exact Ve s el 0 fun d=>hn b (g.l s d)
 ·subst b
  rcases h with h | h | h | h | h | h | h | h
  ·exact absurd h.1 iu
  ·exact absurd h.1 iu
  ·exact absurd h.1 iu
  ·exact absurd h.1 iu
  ·exact g.res c h.2.2.2.2.2.1
  all_goals exact absurd h.1 iu
 subst b;rcases h with h | h | h | h | h | h | h | h
 ·exact absurd h.1 iu
 ·exact absurd h.1 iu
 ·exact absurd h.1 iu
 ·exact absurd h.1 iu
 ·exact absurd h.1 iu
 ·refine g.res c ?_
  unfold nq;rw[iV iu];simp only[mT,decide_eq_true_eq];have:=h.2.2.2.2.2.1;omega
 all_goals exact absurd h.1 iu
mutual
theorem rd.ax (g:rd el L) (hl:el.length<=24):∀x:Tx,GE el x.er->Ul L x->AX el x.er
 |.mk k o t v s A c xs,h,hn=>by
  rw[Tx.er,GE]at h;rw[Tx.er,AX];refine⟨g.qx hl h.1 (fun hk=>hn (.mk k o t v s A c xs) (by rw[Tx.list];exact nG) hk),rd.axs g hl xs h.2 fun y hy=>hn y (by rw[Tx.list];exact qj _ hy)⟩
theorem rd.axs (g:rd el L) (hl:el.length<=24):∀xs:List Tx,IE el (Tx.kv xs)->(∀y∈Tx.lists xs,y.kind=2->((0:Int),y.name)∉L)->tj el (Tx.kv xs)
 |[],_,_=>by rw[Tx.kv,tj];trivial
 |x::xs,h,hn=>by
  rw[Tx.kv,IE]at h;rw[Tx.kv,tj];rw[Tx.lists]at hn;exact⟨rd.ax g hl x h.1 fun y hy=>hn y (List.mem_append_left _ hy),rd.axs g hl xs h.2 fun y hy=>hn y (List.mem_append_right _ hy)⟩
end
theorem rd.ex (g:rd el L) (hl:el.length<=24) {x:Tx} (h:qk el x=0) (hn:Ul L x):AX el x.er:=g.ax hl x (Ki h).1 hn
end
def Yb (g:Nat) (K:Yd):Yd:=fun x=>if x=g then some .look else K x
section
variable {L:List (Int×yB)} {B:Nat} {K K' K1 K2 K3:Yd} {w w' w'' D W1:yM} {b b1 g sq n:Nat} {pe:Value} {nd q nd' q':Int} {nA:zA} {nc:Nat} {nl:List nh} {N M:Nat}
theorem Yb.ne (h:Yb g K b=none):b≠g/\K b=none:=by
 unfold Yb at h;split at h
 ·cases h
 exact⟨by assumption,h⟩
theorem Yb.at (h:b≠g) (e:K b=none):Yb g K b=none:=(iV h).trans e
theorem Yb.kle (k:ii K K' n):ii (Yb g K) (Yb g K') n:=fun x hx=>by
 unfold Yb;split
 ·rfl
 exact k x hx
theorem R.kg (r:R K w w'):R (Yb g K) w w':=⟨r.os,r.tape,r.output,r.size,fun b hb h=>r.block b hb (Yb.ne h).2⟩
theorem J.inputs (j:J L B K w) (hk:K b=some .nm) {up:zA} {o d:Nat} {i:Option Nat} {v:Value} (hB:iP w b 140 #[.pointer up,.map (some o),.map (some d),.map i,v]) :
  J L B (fun x=>if x=w.heap.size then some .flag else K x) ((w.alloc (.map #[] 0)).setCell (b,3) (.map (some w.heap.size)))/\iP ((w.alloc (.map #[] 0)).setCell (b,3) (.map (some w.heap.size))) b 140 #[.pointer up,.map (some o),.map (some d),.map (some w.heap.size),v]:=by
 obtain⟨n,z,C,N,u,S,M,F2,F3,F4,I,F6⟩:=j.ok b _ hk;have c:=M.symm.trans hB;have E:#[Value.pointer n,.map (some z),.map (some C),.map N,u]=#[Value.pointer up,.map (some o),.map (some d),.map i,v]:=by
  injection c with c
  injection c
 have Z:n=up/\z=o/\C=d/\N=i/\u=v:=by simpa using E
 obtain⟨rfl,rfl,rfl,rfl,rfl⟩:=Z;have H:ik w (w.alloc (.map #[] 0)):=zc;have V:=j.dom b _ hk;have T:((w.alloc (.map #[] 0)).setCell (b,3) (.map (some w.heap.size))).heap.size=w.heap.size+1:=by simp
 have s:iP ((w.alloc (.map #[] 0)).setCell (b,3) (.map (some w.heap.size))) b 140 #[.pointer n,.map (some z),.map (some C),.map (some w.heap.size),u]:=by
  have:=(mZ (k:=H) M).jx 3 (.map (some w.heap.size));simpa using this
 have A:∀x,x<w.heap.size->x≠b->((w.alloc (.map #[] 0)).setCell (b,3) (.map (some w.heap.size))).heap[x]?=w.heap[x]?:=fun x Q X=>
  ((xx.set (g:=b) _ 3 _).block x (rO Q H.below.size) X).trans (H.below.block x Q)
 have t:((w.alloc (.map #[] 0)).setCell (b,3) (.map (some w.heap.size))).heap[w.heap.size]?=some (.map #[] 0):=
  ((xx.set (g:=b) _ 3 _).block w (by simp) iu).trans (World.alloc_heap_new w _)
 have m:∀x k,K x=some k->(fun x=>if x=w.heap.size then some Yg.flag else K x) x=some k:=fun x k e=>by
  have:=(j.dom x k e).2;show (if _ then _ else _)=_
  rw[iV iu];exact e
 have a:∀x k,(if x=w.heap.size then some Yg.flag else K x)=some k->(x=w.heap.size/\k=.flag)\/K x=some k:=fun x k e=>by
  by_cases h:x=w
  ·rw[iG h]at e
   injection e with e
   exact .inl ⟨h,e.symm⟩
  rw[iV h]at e;exact .inr e
 refine⟨⟨fun x k e=>?_,fun x k e=>?_,by have:=j.le;omega,fun x cs e O=>?_,fun r x e=>?_⟩,s⟩
 ·rcases a x k e with⟨rfl,-⟩ | e
  ·have:=j.le;omega
  have:=j.dom x k e;omega
 ·rcases a x k e with⟨rfl,rfl⟩ | e
  ·exact⟨#[],0,t,fun y q=>by cases q⟩
  have D:=j.dom x k e;by_cases f:x=b
  ·subst f
   rw[hk]at e;injection e with e
   subst e;refine⟨n,z,C,some w.heap.size,u,S,s,m _ _ F2,m _ _ F3,fun y q=>?_,fun p hp=>⟨(I p hp).1,(I p hp).2.1,m _ _ (I p hp).2.2⟩,?_⟩
   ·injection q with q
    exact iG q.symm
   obtain⟨R,P,F⟩:=F6;refine⟨R,⟨P.1,?_⟩,fun r U=>m _ _ (F r U)⟩;rcases P.2 with W | ⟨g',cap,cur,rfl,h9,h10,h11⟩
   ·exact .inl W
   refine .inr ⟨g',cap,cur,rfl,h9,(A g' (j.dom g' _ (F g' rfl)).2 (fun G=>?_)).trans h10,h11⟩;have:=F g' rfl;rw[G,hk]at this;cases this
  refine (j.ok x k e).move m (A x D.2 f) fun y q=>A y (j.dom y _ q).2 fun G=>?_
  rw[G,hk]at q;cases q
 ·rcases a x _ e with⟨-,h⟩ | e
  ·cases h
  by_cases f:x=b
  ·subst f
   have Y:=j.geo x _ hk M;have:=s.symm.trans O;injection this with this
   injection this with this
   rw[<- this];simpa using Y
  exact j.geo x cs e ((A x (j.dom x _ e).2 f).symm.trans O)
 rcases a r _ e with⟨-,h⟩ | e
 ·cases h
 exact j.qU r x e
theorem IO.row {α:Type} {sz:Nat} {P:yM->Nat->Nat->α->Prop} {x:nB α} (E:IO L B K w D g sq pe nA nl nc nd q) (hK:tO P) (hS:Ai P) (h:ir sz P D x):ir sz P w x:=(h.below hK E.d.below).sub hS (V.sub K w)
theorem IO.mark (E:IO L B K w D g sq pe nA nl nc nd q) (hD:D<=g) {i:Nat} {v:Value} (hv:#[pe,(nA,nl,nc),nd,q,.map (some sq)].setIfInBounds i v=#[pe,(nA,nl,nc),nd',q',.map (some sq)]):IO L B K (w.setCell (g,i) v) D g sq pe nA nl nc nd' q':=by
 refine⟨?_,E.j.set E.g i v,E.s,E.g,E.n,?_⟩
 ·have:=Hg E.h i v
  rw[hv]at this;exact this
 have a:=E.d.below;refine⟨⟨a.os,a.tape,a.output,?_,fun x c=>?_⟩⟩
 ·have:=a.size
  rw[show (V K w).heap.size=w.heap.size from pt _ w]at this;rw[show (V K (w.setCell (g,i) v)).heap.size=(w.setCell (g,i) v).heap.size from pt _ _];simpa using this
 have m:=a.block x c;have f:(V K (w.setCell (g,i) v)).heap[x]?=(V K w).heap[x]?:=by
  have e:=(xx.set (g:=g) w i v).block x (by have:=a.size;rw[show (V K w).heap.size=w.heap.size from pt _ w]at this;omega) iu;cases hk:K x with
  |none=>exact (xk _ (by show (K x).isSome=false;rw[hk];rfl)).trans (e.trans (xk w (by show (K x).isSome=false;rw[hk];rfl)).symm)
  |some k=>
  have b:x<w:=(E.j.dom x k hk).2;exact (CY _ (by show (K x).isSome=true;rw[hk];rfl) (by simpa using b)).trans (CY w (by show (K x).isSome=true;rw[hk];rfl) b).symm
 exact f.trans m
structure UX (L:List (Int×yB)) (B:Nat) (K1:Yd) (W1 D:yM) (g sq:Nat) (pe:Value) (nA:zA) (nl:List nh) (nc b1 N:Nat) (K2:Yd) (w:yM) (nd q:Int):Prop where
 e:IO L B K2 w D g sq pe nA nl nc nd q
 k:ii K1 K2 W1
 r:R (Yb g K1) W1 w
 n:T7 w b1 N
 b:K2 b1=some .nm
theorem UX.step (i:UX L B K1 W1 D g sq pe nA nl nc b1 N K2 w nd q) (k:ii K2 K3 w) (j:J L B K3 w') (r:R K2 w w') (n:T7 w' b1 M):UX L B K1 W1 D g sq pe nA nl nc b1 M K3 w' nd q:=
 ⟨i.e.step k j r,i.k.trans k i.r.size,i.r.trans (Yb.kle i.k) r.kg,n,k.at (i.e.j.dom _ _ i.b).2 i.b⟩
theorem UX.after (i:UX L B K1 W1 D g sq pe nA nl nc b1 N K2 w nd q) (a:ik w w'):UX L B K1 W1 D g sq pe nA nl nc b1 N K2 w' nd q:=
 i.step (ii.refl _ _) (i.e.j.after a) (R.of a) (i.n.keep (a.below.block b1 (i.e.j.dom _ _ i.b).2))
theorem UX.mark (i:UX L B K1 W1 D g sq pe nA nl nc b1 N K2 w nd q) (hD:D<=g) (q':Int):UX L B K1 W1 D g sq pe nA nl nc b1 N K2 (w.setCell (g,3) (.int .i64 q')) nd q':=by
 have c:b1≠g:=fun e=>by have:=i.b;rw[e,i.e.g]at this;cases this
 refine⟨i.e.mark hD rfl,i.k,⟨i.r.os,i.r.tape,i.r.output,by simpa using i.r.size,fun x a h=>?_⟩,i.n.keep ((xx.set (g:=g) w 3 _).block b1 (i.e.j.dom _ _ i.b).2 c),i.b⟩;exact ((xx.set (g:=g) w 3 _).block x (rO a i.r.size) (Yb.ne h).1).trans (i.r.block x a h)
end
end Go.Proofs.YtnigblndonocfaaGreatDoor
