/- A part of the proof. -/
import Derived.Test.YtnigblndonocfaaGreatDoorPMg
set_option linter.unusedVariables false
set_option linter.unusedSimpArgs false
namespace Go.Proofs.YtnigblndonocfaaGreatDoor
set_option maxRecDepth 100000
set_option maxHeartbeats 6400000
open Go.RowKit Go.BigFrame
section
structure pH {α:Type} (ok:World->α->Prop):Prop where
 below:∀(W W':World) (y:α),Below W.heap.size W W'->ok W y->ok W' y
 sub:∀(W w:World) (y:α),CU W w->ok W y->ok w y
def iD (S:Nat->Bool) (v:Value):Nat->Bool:=fun b=>S b||v.ownBlock==some b
structure kZ {α:Type} (n0:Nat) (T:TypeId) (sz:Nat) (cells:α->List Value) (ok:World->α->Prop) (S:Nat->Bool) (w:World) (v:Value) (l:List α):Prop where
 own:w.ownsRow n0 T sz v l.length (l.flatMap cells)
 inn:∀y∈l,ok (kK (iD S v) w) y
section
variable {α:Type} {n0:Nat} {T:TypeId} {sz:Nat} {cells:α->List Value} {ok:World->α->Prop} {S:Nat->Bool} {w w':World} {v:Value} {l:List α} {q:Nat}
theorem kZ.nil:kZ n0 T sz cells ok S w (.slice none 0 0) ([]:List α):=⟨FL ..,fun y hy=>by cases hy⟩
theorem kZ.iv (h:kZ n0 T sz cells ok S w v l) (hm:pH ok) (hq:q<n0) (hS:S q=true) (a:ik (iz q w) (iz q w')):kZ n0 T sz cells ok S w' v l:=
 ⟨tM (nF (sG h.own hq) a) hq,fun y hy=>hm.below _ _ _ (j_ (q:=q) (by unfold iD;rw[hS];rfl) a).below (h.inn y hy)⟩
theorem kZ.after (h:kZ n0 T sz cells ok S w v l) (hm:pH ok) (a:ik w w'):kZ n0 T sz cells ok S w' v l:=
 ⟨nF h.own a,fun y hy=>hm.below _ _ _ (oS a).below (h.inn y hy)⟩
theorem kZ.set (h:kZ n0 T sz cells ok S w v l) (hm:pH ok) {r:Nat} (hr:S r=true) (hv:v.ownBlock≠some r) (i:Nat) (u:Value):kZ n0 T sz cells ok S (w.setCell ⟨r,i,none⟩ u) v l:=by
 refine⟨?_,fun y j=>hm.below _ _ _ (kJ (by unfold iD;rw[hr];rfl) _ _ _).below (h.inn y j)⟩;refine⟨h.own.1,?_⟩;rcases h.own.2 with o | ⟨g,cap,cur,e,hb,hgg,rest⟩
 ·exact .inl o
 refine .inr ⟨g,cap,cur,e,hb,?_,rest⟩;rw[Below.heap_setCell w _ u g (by show g≠r;rintro rfl;exact hv (by rw[e];rfl))];exact hgg
theorem kZ.add (h:kZ n0 T sz cells ok S w v l) (hm:pH ok) {m:Nat} {y:α} (hy:ok (old m w) y) (hS:∀b,S b=true->b<m) (hv:∀b,v.ownBlock=some b->b<m) {v':Value}
  (own:w'.ownsRow n0 T sz v' (l.length+1) (l.flatMap cells++cells y)) (g:w.grownBy w' v.ownBlock) (hb:v'.ownBlock=v.ownBlock\/v'.ownBlock=some w.heap.size):kZ n0 T sz cells ok S w' v' (l++[y]):=by
 have J:∀z∈l++[y],ok (kK (iD S v) w) z:=fun z j=>by
  rcases ue.1 j with j | j
  ·exact h.inn z j
  simp only[la]at j;subst j;refine hm.sub _ _ _ (nO w fun b hb=>?_) hy;unfold iD at hb;simp only[uG,beq_iff_eq]at hb;rcases hb with hb | hb
  ·exact hS b hb
  exact hv b hb
 refine⟨by rw[mo,Fa];simpa using own,fun z j=>?_⟩;have j:=J z j;rcases hb with hb | hb
 ·refine hm.below _ _ _ ?_ j
  have e:iD S v'=iD S v:=by unfold iD;rw[hb]
  rw[e];exact (xo g fun b hb=>by unfold iD;rw[hb];simp).below
 have a:ik (kK (iD S v) w) (kK (fun b=>iD S v b||iD S v' b) w'):=by
  refine vx g.os g.tape g.output g.size fun b I=>⟨?_,fun e=>g.block b I fun R=>?_⟩
  ·have o:(v'.ownBlock==some b)=false:=by
    rw[hb];simp;omega
   unfold iD;rw[o];cases S b<;>simp
  unfold iD at e;rw[<- R]at e;simp at e
 exact hm.sub _ _ _ (rp (fun b hb=>by rw[hb,Bool.or_true]) w') (hm.below _ _ _ a.below j)
theorem Bw {n:Nat} {xs:List Value} (h:w.ownsRow n0 T sz v n xs):(old n0 w).ownsRow n0 T sz v n xs:=by
 refine⟨h.1,?_⟩;rcases h.2 with j | ⟨g,cap,cur,e,hb,hgg,rest⟩
 ·exact .inl j
 refine .inr ⟨g,cap,cur,e,hb,?_,rest⟩;rwa [lV w hb]
theorem kZ.St (h:kZ n0 T sz cells ok S w v l) (hm:pH ok) (hS:∀b,b<n0->S b=true):(∀y∈l,ok (old n0 w) y):=
 fun y hy=>hm.sub _ _ _ (sZ w fun b hb=>by unfold iD;rw[hS b hb];rfl) (h.inn y hy)
theorem kZ.row {P:World->Nat->Nat->α->Prop} (h:kZ n0 T sz cells ok S w v l) (hm:pH ok) (hS:∀b,b<n0->S b=true) (hc:∀y,(cells y).length=sz) (hl:l.length<=140737488355328)
  (hP:∀W b o y,ok W y->(∀j u,(cells y)[j]?=some u->W.cell? ⟨b,o+j,none⟩=some u)->P W b o y):∃A c,v=.slice A l.length c/\ir sz P (old n0 w) ⟨A,c,l⟩:=
 KK hc (Bw h.own) hl fun b o y _ hy hj=>hP _ b o y (h.St hm hS y hy) hj
end
theorem ld:pH RX:=⟨fun W W' y hb h=>h.below hb,fun W w y k h=>h.sub k⟩
theorem kZ.rx {n0:Nat} {S:Nat->Bool} {w:World} {v:Value} {l:List Tx} (h:kZ n0 73 6 jj RX S w v l) (hS:∀b,b<n0->S b=true) (hl:l.length<=70000) (k o t x:Int) (s:ByteArray) (hs:s.size<=65536):∃A c,v=.slice A l.length c/\RX (old n0 w) (.mk k o t x s A c l):=by
 obtain⟨A,c,rfl,h1,h2⟩:=ji h.own;have I:=h.St ld hS;refine⟨A,c,rfl,?_⟩;rw[RX];refine⟨iu,h1,h2,iu,?_⟩;rcases (Bw h.own).2 with⟨hv,h0⟩ | ⟨g,cap,cur,hv,hbg,hh,hnc,hcap,hsz,htk⟩
 ·exact .inl (B_ h0)
 injection hv with hA
 subst hA;have J:g<(old n0 w).heap.size:=by
  rcases qa g (old n0 w).heap.size with R | R
  ·exact R
  rw[FF R]at hh;cases hh
 refine .inr ⟨g,0,rfl,J,xX.De (fun j u U=>?_) I⟩;have:=(Bw h.own).cells (g:=g) rfl j u U;rwa [yb]at this
section
variable {B:World} {q:Nat} {A:Option Addr} {c:Nat} {L:List Tk} {en:Int} {eA:Option Addr} {ec:Nat} {el:List iW} {w w0 w':World} {i n0 sz n:Nat} {T:TypeId} {v:Value} {xs:List Value}
theorem kF (a:ik (iz q w0) (iz q w)) (own:w.ownsRow n0 T sz v n xs) (g:w.grownBy w' v.ownBlock) (hq:q<n0) (h0:w0.heap.size<=n0):ik (iz q w0) (iz q w'):=
 vm (h:=a) (sG own hq) (by rw[iZ];exact h0) (z' g)
theorem Rd.grown (h:Rd B q A c L en eA ec el w i) (own:w.ownsRow n0 T sz v n xs) (g:w.grownBy w' v.ownBlock) (hq:q<n0) (hB:B.heap.size<=n0):Rd B q A c L en eA ec el w' i:=
 ⟨oY h.blk g (fun e=>by have:=(own.lt q e.symm).1;omega),vm (h:=h.aft) (sG own hq) hB (z' g),h.le,h.tk,h.ens,h.few,h.num⟩
theorem Rd.set (h:Rd B q A c L en eA ec el w i) {r:Nat} (hr:r≠q) (hB:B.heap.size<=r) (j:Nat) (u:Value):Rd B q A c L en eA ec el (w.setCell ⟨r,j,none⟩ u) i:=
 ⟨h.blk.qU (p:=⟨r,j,none⟩) (ls hr) _,iJ (k:=⟨hB⟩) (h:=h.aft) _ _,h.le,h.tk,h.ens,h.few,h.num⟩
end
end
section
open Go.Proofs.Tryz
section
variable {B:World} {q:Nat} {A:Option Addr} {c:Nat} {L:List Tk} {en:Int} {eA:Option Addr} {ec:Nat} {el:List iW} {w w0 w1:World} {i:Nat}
theorem Tl {i2 i9 len m:Nat} (h1:i2<len) (h2:i2+1<=i9) (h3:i9<=len) (h4:20*(len-i2)+10<=m+1):20*(len-i9)+10<=m/\len-i9<len-i2:=iu
theorem LP {k:Nat} (s:ByteArray) (hs:s.size<=65536) (C:∀j≤k,CX B q A c L en eA ec el j) (h:Rd B q A c L en eA ec el w i) (hk:20*(L.length-i)+10<=k):Calls prog 179 #[.pointer (some q),s] w (pk B q A c L en eA ec el w i (sU el (k+1) s (L.drop i)) (VX w.heap.size)):=by
 obtain⟨X,hX⟩:=jt (sU el (k+1) s (L.drop i));rw[hX];obtain⟨i0,cb⟩:=jt (i);rw[cb]at hX h hk⊢;clear cb;have HX:=iy hX.symm;have cj:Hid (i0<=i0):=js _;clear hX;have hq:=h.blk.lt;have cq:=h.base;obtain⟨r,hr⟩:=jt (w.heap.size);have aS:r≠q:=by omega
 have cE:q<r:=by omega
 obtain⟨w0,cl,aw0,B0,R0,s0⟩:=Ls h hr aS #[.int .i64 0,.int .i64 0,.int .i64 0,.int .i64 0,.string ⟨#[]⟩,.slice none 0 0] 73;have HB:=iy B0;have a0:ik (iz q w0) (iz q w0):=iq _;clear h B0;have hS:=iy hs;clear hs;go_in;go_wp2_with fail;try rw[hr]
 try rw[cl]
 obtain⟨ra,bR⟩:=jt (r+1);obtain⟨v,hv⟩:=jt (Value.slice none 0 0);obtain⟨J,bg⟩:∃y:List Tx,y=[]:=⟨_,rfl⟩;obtain⟨w1,c',RB,R1,a1,l1,OL⟩:∃z,w0.alloc (.cells #[.int .i64 10,.int .i64 0,.int .i64 0,.int .i64 0,s,.slice none 0 0] 73)=z/\Hid (iP z ra 73 #[.int .i64 10,.int .i64 0,.int .i64 0,.int .i64 0,s,v])/\Hid (Rd B q A c L en eA ec el z i0)/\ik (iz q w0) (iz q z)/\z.heap.size=ra+1/\Hid (kZ (ra+1) 73 6 jj RX (fun b=>decide (b<ra+1)) z v J):=⟨_,rfl,by rw[<- bR,<- s0,<- hv];exact jC ..,R0.after iR,im iR,by rw[iH,s0,bR],by rw[<- hv,bg];exact kZ.nil⟩;have ch:=cj;have c8:Hid (J.length=0):=by (show _=_;rw[bg];rfl)
 have ax:Hid (J.map Tx.er=[]):=by (show _=_;rw[bg];rfl)
 have au:Hid (J.length<=i0+1):=by (show _<=_;rw[bg];exact wB _)
 obtain⟨ll,bT⟩:∃l:List Ex,l=[]:=⟨_,rfl⟩;rw[<- bT]at ax;have HX:Hid (X=if jq ⟨#[41]⟩ (L.drop i0) then oR el k s ll (L.drop i0).tail else (jg el k (L.drop i0)).bind fun (a,r)=>(rF el k (ll++[a]) r).bind fun (l,r)=>(iF [⟨#[41]⟩] r).bind fun (_,r)=>oR el k s l r):=by (show _=_;rw[bT];exact HX)
 rw[c'];try rw[bR]
 have a7:ra≠q:=iu;have I:q<ra+1:=iu;have cy:B.heap.size<=ra:=by omega
 have ck:w0.heap.size<=ra:=by omega
 clear hv bg bT c';go_wp2_with fail;refine Dx ⟨#[41]⟩ R1 HX a1 ch ?_ ?_
 ·clear HX;intro w2 R2 HX bm a2 bO
  have a':Hid (iP w2 ra 73 #[.int .i64 10,.int .i64 0,.int .i64 0,.int .i64 0,s,v]):=iB (kq RB a7 bm);have aa:Hid (kZ (ra+1) 73 6 jj RX (fun b=>decide (b<ra+1)) w2 v J):=OL.iv ld I (by simp[I]) bm;clear RB OL;have RB:=a';have OL:=aa;clear a' aa;have HC:Hid (∀U,ik w2 U->Calls prog 71 #[.pointer (some q)] U (pk B q A c L en eA ec el U i0 (jg el k (L.drop i0)) (VX U.heap.size))):=fun U hU=>(C k (js k)).e U i0 (R2.out.after hU) hk
  generalize bt:jg el k (L.drop i0)=Y at HC HX;have a6:=RB.out;have HK:Hid (∀U,ik (iz q w2) (iz q U)->U.cell? ⟨ra,5,none⟩=some v):=fun U hU=>((kq a6 a7 hU).cell 5).trans rfl
  have aR:=jo a6;go_wp2_with fail;refine jm (fun U:World=>U.cell? ⟨ra,5,none⟩=some v) [5,6,7] (by kernel_rfl) ?_;have ah:(fun U:World=>U.cell? ⟨ra,5,none⟩=some v) w2.drew:=HK.out _ inferInstance;refine wT 0 [1,5,6,7] (.pointer (some ⟨ra,5,none⟩)) ah ?_;try simp only[Act.put,oF,oB,oq]
  refine wT 1 [5,6,7] (v) ah ?_;try simp only[Act.put,oF,oB,oq]
  refine wT 2 [3,4,5,6,7] (.pointer (some q)) ah ?_;try simp only[Act.put,oF,oB,oq]
  clear ah;refine lH 3 ?_;go_simp;go_at_call 71;refine (HC.out _ inferInstance).mono ?_;clear HC;rintro e w9 ⟨aZ,hY⟩;have aM:ik (iz q w2) (iz q w9):=ij (im inferInstance) aZ;clear aZ;cases Y with
  |none=>
   obtain⟨a,er,rfl,he⟩:=hY;unfold oD;exact⟨rfl,kf HX.out (ij (im aw0) (ij a2 aM)) (jz a er he)⟩
  |some y=>
  obtain⟨x9,r9⟩:=y;obtain⟨v9,i9,rfl,b3,R9,b4,aF⟩:=hY;subst b4;obtain⟨⟨k9,o9,t9,z9,s9,A9,c9,o⟩,b1,rfl,D9⟩:=b3;rw[JQ k9 o9 t9 z9 s9 A9 c9 o];refine kS (HK.out _ aM) ?_;have aJ:∀g,v.ownBlock=some g->ra+1<=g/\g<w2.heap.size:=fun g hg=>OL.out.own.lt g hg
  have aL:=OL.out.iv ld I (by simp[I]) aM;have R:=kq a6 a7 aM;have bS:J.length<=65537:=by have:=au.out;have:=R9.le;have:=R9.few;omega
  have bQ:ra+1<=w9.heap.size:=R.lt;obtain⟨cg,ab,br,c0,aQ⟩:∃v,w9.alloc (.cells #[k9,o9,t9,z9,s9,.slice A9 o.length c9] 73)=v/\Rd B q A c L en eA ec el v i9/\ik (iz q w0) (iz q v)/\ik w9 v:=⟨_,rfl,R9.after iR,ij (ij a2 aM) (im iR),iR⟩;have ad:=aL.after ld aQ;have bs:=D9.below (jK aQ).below;have aX:=mZ (w:=w9) (k:=aQ) R;have aN:=iy ab;refine lH 4 ?_;go_simp;try rw[ab]
  refine kS (HK.out _ (ij aM (im aQ))) ?_;refine lH 5 ?_;obtain⟨b0,an,al,ak,aj⟩:=info_parts qs;rw[<- ab];refine jZ (w9.alloc (.cells #[k9,o9,t9,z9,s9,.slice A9 o.length c9] 73)) (.tmp 12) (.tmp 15) 63 rfl (ra+1) 73 b0 _ 6 _ underlying63 an al ak aj rfl iI v J.length (J.flatMap jj) rfl (by rw[ab];exact ad.own) _ _ 1 1 [.int .i64 k9,.int .i64 o9,.int .i64 t9,.int .i64 z9,.string s9,.slice A9 o.length c9] rfl (ki (w:=w9) rfl #[k9,o9,t9,z9,s9,.slice A9 o.length c9] 73 _ rfl 1 6 rfl) (by intro u hu;simp only[la]at hu;rcases hu with rfl | rfl | rfl | rfl | rfl | rfl<;>rfl) (by unfold maxLen;omega) iu (by rw[iH];omega) ?_;rw[ab];intro v5 bF a_ a8 aK;clear an al ak aj;obtain⟨A5,c5,rfl,_,_⟩:=ji a_;have aI:=ad.add ld bs (fun b hb=>by (have hb:=vO hb;have:=aR.le;show b<w2.heap.size;omega)) (fun b hb=>(aJ b hb).2) a_ a8 aK;have bq:=br.grown ad.own a8 I iu;have bZ:=kF c0 ad.own a8 I iu;have ai:=oY aX a8 (fun e=>by have:=(ad.own.lt ra e.symm).1;omega);have aG:((.slice A5 (J.length+1) c5):Value).ownBlock≠some ra:=fun e=>by have:=(aI.own.lt ra e).1;omega
  obtain⟨cf,v2,aT,bj,bp,bY,aq,ar⟩:∃z v2,bF.setCell ⟨ra,5,none⟩ (.slice A5 (J.length+1) c5)=z/\v2.ownBlock≠some ra/\Hid (Rd B q A c L en eA ec el z i9)/\ik (iz q w0) (iz q z)/\Hid (iP z ra 73 #[.int .i64 10,.int .i64 0,.int .i64 0,.int .i64 0,s,v2])/\Hid (kZ (ra+1) 73 6 jj RX (fun b=>decide (b<ra+1)) z v2 (J++[Tx.mk k9 o9 t9 z9 s9 A9 c9 o])):=⟨_,(.slice A5 (J.length+1) c5),rfl,aG,bq.set a7 iu 5 _,iJ (k:=⟨by rw[iZ];omega⟩) (h:=bZ) _ _,ai.jx 5 _,aI.set ld (by simp) aG 5 _⟩;have bd:=iy (jW bO.out aF);have bk:i0<=i9:=aF;try refine kL ?_
  obtain⟨m0,m1,m2,m3,m4,m5⟩:=oN ai;have ml:=jo ai;obtain⟨aD,aC,aB,aA,az,ay⟩:=jU ai;refine lH 6 ?_;go_simp;try refine kL ?_
  refine lH 7 ?_;go_simp;try refine kL ?_
  try rw[aT]
  refine iT kp ?_ _;clear m0 m1 m2 m3 m4 m5 ml aD aC aB aA az ay aT ai bq aI a_ a8 aK aX bs ad br ab aN aL R R9 D9 HK a6 RB OL aJ aM;have RB:=aq;have OL:=ar;clear aq ar;have HX:Hid (X=(rF el k (ll++[x9]) (L.drop i9)).bind fun (l,r)=>(iF [⟨#[41]⟩] r).bind fun (_,r)=>oR el k s l r):=HX.out;have b5:Hid ((J++[Tx.mk k9 o9 t9 z9 s9 A9 c9 o]).map Tx.er=ll++[x9]):=by (show _=_;rw[s_,ax.out,<- b1];rfl)
  have cG:=bt;have bh:Hid ((J++[Tx.mk k9 o9 t9 z9 s9 A9 c9 o]).length<=i9+1):=by (show _<=_;rw[mo];have h1:=c8.out;simp;omega)
  have cn:20*(L.length-i9)+10<=k:=by have:=aF;omega
  go_wp2_with fail;go_loopw [] (fun wr=>∃(i' m:Nat) (v:Value) (J:List Tx) (ll:List Ex),i0<=i'/\m<=k/\20*(L.length-i')+10<=m/\Hid (J.length<=i'+1)/\Hid (J.map Tx.er=ll)/\Hid (X=(rF el m ll (L.drop i')).bind fun (l,r)=>(iF [⟨#[41]⟩] r).bind fun (_,r)=>oR el k s l r)/\Hid (Rd B q A c L en eA ec el wr i')/\ik (iz q w0) (iz q wr)/\Hid (iP wr ra 73 #[.int .i64 10,.int .i64 0,.int .i64 0,.int .i64 0,s,v])/\Hid (kZ (ra+1) 73 6 jj RX (fun b=>decide (b<ra+1)) wr v J)) (fun wr=>L.length-lO wr q 2)
  case atStart=>exact⟨i9,k,v2,_,_,bd.out,js k,cn,bh,b5,HX,bp,bY,RB,OL⟩
  case round=>
  obtain⟨i2,m,v,J,ll,bN,cm,cp,au,ax,HX,cc,ct,RB,OL⟩:=hrel;have c4:=iy bN;obtain⟨m,rfl⟩:∃j,m=j+1:=⟨m-1,by omega⟩;have d1:=iy (je cc.fields.2.2.1);have HX:Hid (X=(if jq ⟨#[44]⟩ (L.drop i2) then (jg el m (L.drop i2).tail).bind fun (a,r)=>rF el m (ll++[a]) r else some (ll,L.drop i2)).bind fun (l,r)=>(iF [⟨#[41]⟩] r).bind fun (_,r)=>oR el k s l r):=HX;have cw:True:=trivial;have cv:=HX;have HX:Hid (X=if jq ⟨#[44]⟩ (L.drop i2) then (jg el m (L.drop i2).tail).bind (fun (a,r)=>(rF el m (ll++[a]) r).bind fun (l,r)=>(iF [⟨#[41]⟩] r).bind fun (_,r)=>oR el k s l r) else (iF [⟨#[41]⟩] (L.drop i2)).bind fun (_,r)=>oR el k s ll r):=by (show _=_;rw[cv.out];by_cases hc:jq ⟨#[44]⟩ (L.drop i2)=true;rw[iG hc,iG hc,Option.bind_assoc];rw[iV hc,iV hc];rfl)
  go_wp2_with fail;refine Dx ⟨#[44]⟩ cc HX ct c4 ?_ ?_
  ·clear HX;intro aY c2 HX aU bu bf
   have a':=iy (kq RB a7 aU);have aa:=iy (OL.iv ld I (by simp[I]) aU);have RB:=a';have OL:=aa;have c7:=au;go_wp2_with fail;refine td (jH c2 [⟨#[41]⟩] iI) HX bu bf ?_;clear HX;intro cA cz cB aE ca cu HX c3 bB bC cr;subst ca;have a':=iy (kq RB a7 bC);have aa:=iy (OL.iv ld I (by simp[I]) bC);have RB:=a';have OL:=aa;have au:=iy (jW c7 (Nat.succ_le_succ bB));have HX:Hid (X=oR el k s ll (L.drop aE)):=HX;have bU:20*(L.length-aE)+10<=k:=by have:=bB;omega
   obtain⟨k',rfl⟩:∃j,k=j+1:=⟨k-1,iu⟩;have HX:Hid (X=if jq ⟨#[101,118,101,114,121]⟩ (L.drop aE) then (kV el k' (L.drop aE).tail).bind fun (x,r)=>some (.mk 10 0 0 1 s (ll++[x]),r) else some (.mk 10 0 0 0 s ll,L.drop aE)):=HX;go_wp2_with fail;refine Dx ⟨#[101,118,101,114,121]⟩ cu HX cr c3 ?_ ?_
   ·clear HX;intro av b' HX aV bo be
    have a':Hid (iP av ra 73 #[.int .i64 10,.int .i64 0,.int .i64 0,.int .i64 0,s,v]):=iy (kq RB a7 aV);have aa:Hid (kZ (ra+1) 73 6 jj RX (fun b=>decide (b<ra+1)) av v J):=OL.iv ld I (by simp[I]) aV;have RB:=a';have OL:=aa;obtain⟨AF,cF,b2,DF⟩:=OL.rx (fun b hb=>lp hb) (by have:=au.out;have h1:=b'.le;have h2:=b'.few;omega) 10 0 0 0 s hS;subst b2;have R:=RB.out;obtain⟨m0,m1,m2,m3,m4,m5⟩:=oN R;have ml:=jo R;obtain⟨aD,aC,aB,aA,az,ay⟩:=jU R;have ae:qP av r oE:=lM (HB.out.after (k:=bo)) aS;obtain⟨n0,n1,n2,n3,n4,n5⟩:=ae.cells;have nl:=jo ae;obtain⟨bL,bK,bJ,bI,bH,bG⟩:=jU ae;have E0:RX (old w0.heap.size av) (.mk 10 0 0 0 s AF cF J):=DF.sub (iS iu _);have aH:(Tx.mk 10 0 0 0 s AF cF J).er=.mk 10 0 0 0 s ll:=by rw[qp,ax.out]
    have b8:Hid (X=some (.mk 10 0 0 0 s ll,L.drop aE)):=HX;obtain⟨YY,aw⟩:=jt (J);rw[aw]at m5 E0 aH;have aw:=iy aw;obtain⟨W,hW,EW,b6,aW,oW,sW⟩:=jY ae b'.out aS (ij (im aw0) bo) (lI hr) iu (.mk 10 0 0 0 s AF cF YY);simp only[txs]at hW;go_wp2_with fail;try rw[hW]
    obtain⟨u0,u1,u2,u3,u4,u5⟩:=EW.cells;simp only[txs]at u0 u1 u2 u3 u4 u5;exact jR (v:=.agg #[.int .i64 10,.int .i64 0,.int .i64 0,.int .i64 0,s,.slice AF YY.length cF]) (by simp[results,results179,go_sem,u0,u1,u2,u3,u4,u5]) rfl (lN (x:=.mk 10 0 0 0 s ll) (show X=some (.mk 10 0 0 0 s ll,L.drop aE) from b8) aW ⟨.mk 10 0 0 0 s AF cF YY,aH,rfl,((E0).below (oW w0.heap.size iu).below).sub (iS iu W)⟩ b6 rfl (be))
   clear HX;intro av b' HX aV bo be cx;rw[tail_drop]at HX;have a':Hid (iP av ra 73 #[.int .i64 10,.int .i64 0,.int .i64 0,.int .i64 0,s,v]):=iy (kq RB a7 aV);have aa:Hid (kZ (ra+1) 73 6 jj RX (fun b=>decide (b<ra+1)) av v J):=OL.iv ld I (by simp[I]) aV;have RB:=a';have OL:=aa;have HC:Hid (∀U,ik av U->Calls prog 170 #[.pointer (some q)] U (pk B q A c L en eA ec el U (aE+1) (kV el k' (L.drop (aE+1))) (VX U.heap.size))):=fun U hU=>(C k' iu).p U (aE+1) (b'.after hU) (by have h1:=b'.le;have h2:=bU;omega)
   generalize bt:kV el k' (L.drop (aE+1))=Y at HC HX;have a6:=RB.out;have HK:Hid (∀U,ik (iz q av) (iz q U)->U.cell? ⟨ra,5,none⟩=some v):=fun U hU=>((kq a6 a7 hU).cell 5).trans rfl
   have aR:=jo a6;go_wp2_with fail;refine jm (fun U:World=>U.cell? ⟨ra,5,none⟩=some v) [5,6,7] kp ?_;have ah:(fun U:World=>U.cell? ⟨ra,5,none⟩=some v) av.drew:=HK.out _ iR;refine wT 0 [1,5,6,7] (.pointer (some ⟨ra,5,none⟩)) ah ?_;try simp only[Act.put,sC]
   refine wT 1 [5,6,7] (v) ah ?_;try simp only[Act.put,sC]
   refine wT 2 [3,4,5,6,7] (.pointer (some q)) ah ?_;try simp only[Act.put,sC]
   refine lH 3 ?_;go_simp;go_at_call 170;refine (HC.out _ iR).mono ?_;rintro e w9 ⟨aZ,hY⟩;have aM:ik (iz q av) (iz q w9):=ij (im iR) aZ;cases Y with
   |none=>
    obtain⟨a,er,rfl,he⟩:=hY;unfold oD;exact⟨rfl,kf HX.out (ij (im aw0) (ij bo aM)) (jz a er he)⟩
   |some y=>
   obtain⟨x9,r9⟩:=y;obtain⟨v9,i9,rfl,b3,R9,b4,aF⟩:=hY;subst b4;obtain⟨⟨k9,o9,t9,z9,s9,A9,c9,o⟩,b1,rfl,D9⟩:=b3;have bP:(Tx.mk k9 o9 t9 z9 s9 A9 c9 o).val=.agg #[k9,o9,t9,z9,s9,.slice A9 o.length c9]:=rfl;rw[bP];refine kS (HK.out _ aM) ?_;have aJ:∀g,v.ownBlock=some g->ra+1<=g/\g<av.heap.size:=fun g hg=>OL.out.own.lt g hg
   have aL:=OL.out.iv ld I (by simp[I]) aM;have R:=kq a6 a7 aM;have bS:J.length<=65537:=by have:=au.out;have:=R9.le;have:=R9.few;omega
   have bQ:ra+1<=w9.heap.size:=R.lt;obtain⟨cd,af,bx,bX,aP⟩:∃v,w9.alloc (.cells #[k9,o9,t9,z9,s9,.slice A9 o.length c9] 73)=v/\Rd B q A c L en eA ec el v i9/\ik (iz q w0) (iz q v)/\ik w9 v:=⟨_,rfl,R9.after iR,ij (ij bo aM) (im iR),iR⟩;have ag:=aL.after ld aP;have bz:=D9.below (jK aP).below;have b_:=mZ (w:=w9) (k:=aP) R;have aN:=iy af;refine lH 4 ?_;go_simp;try rw[af]
   refine kS (HK.out _ (ij aM (im aP))) ?_;refine lH 5 ?_;obtain⟨b0,an,al,ak,aj⟩:=info_parts qs;rw[<- af];refine jZ (w9.alloc (.cells #[k9,o9,t9,z9,s9,.slice A9 o.length c9] 73)) (.tmp 33) (.tmp 36) 63 rfl (ra+1) 73 b0 _ 6 _ underlying63 an al ak aj rfl iI v J.length (J.flatMap jj) rfl (by rw[af];exact ag.own) _ _ 1 1 [.int .i64 k9,.int .i64 o9,.int .i64 t9,.int .i64 z9,.string s9,.slice A9 o.length c9] rfl (ki (w:=w9) rfl #[k9,o9,t9,z9,s9,.slice A9 o.length c9] 73 _ rfl 1 6 rfl) (by intro u hu;simp only[la]at hu;rcases hu with rfl | rfl | rfl | rfl | rfl | rfl<;>rfl) (by unfold maxLen;omega) iu (by rw[iH];omega) ?_;rw[af];intro v5 bE a_ a8 aK;obtain⟨A5,c5,rfl,_,_⟩:=ji a_;have aO:=ag.add ld bz (fun b hb=>by (have hb:=vO hb;have:=aR.le;show b<av.heap.size;omega)) (fun b hb=>(aJ b hb).2) a_ a8 aK;have bw:=bx.grown ag.own a8 I iu;have bW:=kF bX ag.own a8 I iu;have ao:=oY b_ a8 (fun e=>by have:=(ag.own.lt ra e.symm).1;omega);have aG:((.slice A5 (J.length+1) c5):Value).ownBlock≠some ra:=fun e=>by have:=(aO.own.lt ra e).1;omega
   obtain⟨bD,v2,b9,bj,c1,bV,aq,ar⟩:∃z v2,bE.setCell ⟨ra,5,none⟩ (.slice A5 (J.length+1) c5)=z/\v2.ownBlock≠some ra/\Hid (Rd B q A c L en eA ec el z i9)/\ik (iz q w0) (iz q z)/\Hid (iP z ra 73 #[.int .i64 10,.int .i64 0,.int .i64 0,.int .i64 0,s,v2])/\Hid (kZ (ra+1) 73 6 jj RX (fun b=>decide (b<ra+1)) z v2 (J++[Tx.mk k9 o9 t9 z9 s9 A9 c9 o])):=⟨_,(.slice A5 (J.length+1) c5),rfl,aG,bw.set a7 iu 5 _,iJ (k:=⟨by rw[iZ];omega⟩) (h:=bW) _ _,ao.jx 5 _,aO.set ld (by simp) aG 5 _⟩;have bc:=iy (jW be.out aF);have bk:(aE+1)<=i9:=aF;try refine kL ?_
   obtain⟨m0,m1,m2,m3,m4,m5⟩:=oN ao;have ml:=jo ao;obtain⟨aD,aC,aB,aA,az,ay⟩:=jU ao;refine lH 6 ?_;go_simp;try refine kL ?_
   refine lH 7 ?_;go_simp;try refine kL ?_
   try rw[b9]
   refine iT kp ?_ _;have RB:=aq;have OL:=ar;have a6:=RB.out;have aR:=jo a6;obtain⟨ba,c_,b7,bn,aq,ar⟩:∃z,bD.setCell ⟨ra,3,none⟩ (.int .i64 1)=z/\Hid (Rd B q A c L en eA ec el z i9)/\ik (iz q w0) (iz q z)/\Hid (iP z ra 73 #[.int .i64 10,.int .i64 0,.int .i64 0,.int .i64 1,s,v2])/\Hid (kZ (ra+1) 73 6 jj RX (fun b=>decide (b<ra+1)) z v2 (J++[Tx.mk k9 o9 t9 z9 s9 A9 c9 o])):=⟨_,rfl,c1.out.set a7 iu 3 _,iJ (k:=⟨by rw[iZ];omega⟩) (h:=bV) _ _,a6.jx 3 (.int .i64 1),OL.out.set ld (by simp) bj 3 _⟩;have bb:=bc;obtain⟨m0,m1,m2,m3,m4,m5⟩:=oN a6;have ml:=jo a6;obtain⟨aD,aC,aB,aA,az,ay⟩:=jU a6;have RB:=aq;have OL:=ar;obtain⟨AF,cF,b2,DF⟩:=OL.out.rx (fun b hb=>lp hb) (by rw[mo];have:=au.out;have h1:=b7.out.le;have h2:=b7.out.few;simp;omega) 10 0 0 1 s hS.out;subst b2;have R:=RB.out;obtain⟨m0,m1,m2,m3,m4,m5⟩:=oN R;have ml:=jo R;obtain⟨aD,aC,aB,aA,az,ay⟩:=jU R;have ae:qP ba r oE:=lM (HB.out.after (k:=bn)) aS;obtain⟨n0,n1,n2,n3,n4,n5⟩:=ae.cells;have nl:=jo ae;obtain⟨bL,bK,bJ,bI,bH,bG⟩:=jU ae;have E0:RX (old w0.heap.size ba) (.mk 10 0 0 1 s AF cF (J++[Tx.mk k9 o9 t9 z9 s9 A9 c9 o])):=DF.sub (iS (by omega) _);have aH:(Tx.mk 10 0 0 1 s AF cF (J++[Tx.mk k9 o9 t9 z9 s9 A9 c9 o])).er=.mk 10 0 0 1 s (ll++[x9]):=by rw[qp,s_,ax.out,<- b1];rfl
   have b8:Hid (X=some (.mk 10 0 0 1 s (ll++[x9]),L.drop i9)):=HX.out;obtain⟨YY,aw⟩:=jt ((J++[Tx.mk k9 o9 t9 z9 s9 A9 c9 o]));rw[aw]at m5 E0 aH;have aw:=iy aw;obtain⟨W,hW,EW,b6,aW,oW,sW⟩:=jY ae b7.out aS (ij (im aw0) bn) (lI hr) iu (.mk 10 0 0 1 s AF cF YY);simp only[txs]at hW;go_wp2_with fail;try rw[hW]
   obtain⟨u0,u1,u2,u3,u4,u5⟩:=EW.cells;simp only[txs]at u0 u1 u2 u3 u4 u5;exact jR (v:=.agg #[.int .i64 10,.int .i64 0,.int .i64 0,.int .i64 1,s,.slice AF YY.length cF]) (by simp[results,results179,go_sem,u0,u1,u2,u3,u4,u5]) rfl (lN (x:=.mk 10 0 0 1 s (ll++[x9])) (show X=some (.mk 10 0 0 1 s (ll++[x9]),L.drop i9) from b8.out) aW ⟨.mk 10 0 0 1 s AF cF YY,aH,rfl,((E0).below (oW w0.heap.size iu).below).sub (iS iu W)⟩ b6 rfl (bb.out))
  clear HX;intro aY c2 HX aU bu bf bA;rw[tail_drop]at HX;have a':=iy (kq RB a7 aU);have aa:=iy (OL.iv ld I (by simp[I]) aU);have RB:=a';have OL:=aa;have HC:Hid (∀U,ik aY U->Calls prog 71 #[.pointer (some q)] U (pk B q A c L en eA ec el U (i2+1) (jg el m (L.drop (i2+1))) (VX U.heap.size))):=fun U hU=>(C m iu).e U (i2+1) (c2.after hU) (by have:=bA;omega)
  generalize bt:jg el m (L.drop (i2+1))=Y at HC HX;have a6:=RB.out;have HK:Hid (∀U,ik (iz q aY) (iz q U)->U.cell? ⟨ra,5,none⟩=some v):=fun U hU=>((kq a6 a7 hU).cell 5).trans rfl
  have aR:=jo a6;go_wp2_with fail;refine jm (fun U:World=>U.cell? ⟨ra,5,none⟩=some v) [5,6,7] kp ?_;have ah:(fun U:World=>U.cell? ⟨ra,5,none⟩=some v) aY.drew:=HK.out _ iR;refine wT 0 [1,5,6,7] (.pointer (some ⟨ra,5,none⟩)) ah ?_;try simp only[Act.put,sC]
  refine wT 1 [5,6,7] (v) ah ?_;try simp only[Act.put,sC]
  refine wT 2 [3,4,5,6,7] (.pointer (some q)) ah ?_;try simp only[Act.put,sC]
  refine lH 3 ?_;go_simp;go_at_call 71;refine (HC.out _ iR).mono ?_;rintro e w9 ⟨aZ,hY⟩;have aM:ik (iz q aY) (iz q w9):=ij (im iR) aZ;cases Y with
  |none=>
   obtain⟨a,er,rfl,he⟩:=hY;unfold oD;exact⟨rfl,kf HX.out (ij (im aw0) (ij bu aM)) (jz a er he)⟩
  |some y=>
  obtain⟨x9,r9⟩:=y;obtain⟨v9,i9,rfl,b3,R9,b4,aF⟩:=hY;subst b4;obtain⟨⟨k9,o9,t9,z9,s9,A9,c9,o⟩,b1,rfl,D9⟩:=b3;rw[JQ k9 o9 t9 z9 s9 A9 c9 o];refine kS (HK.out _ aM) ?_;have aJ:∀g,v.ownBlock=some g->ra+1<=g/\g<aY.heap.size:=fun g hg=>OL.out.own.lt g hg
  have aL:=OL.out.iv ld I (by simp[I]) aM;have R:=kq a6 a7 aM;have bS:J.length<=65537:=by have:=au.out;have:=R9.le;have:=R9.few;omega
  have bQ:ra+1<=w9.heap.size:=R.lt;obtain⟨cg,ab,br,c0,aQ⟩:∃v,w9.alloc (.cells #[k9,o9,t9,z9,s9,.slice A9 o.length c9] 73)=v/\Rd B q A c L en eA ec el v i9/\ik (iz q w0) (iz q v)/\ik w9 v:=⟨_,rfl,R9.after iR,ij (ij bu aM) (im iR),iR⟩;have ad:=aL.after ld aQ;have bs:=D9.below (jK aQ).below;have aX:=mZ (w:=w9) (k:=aQ) R;have aN:=iy ab;refine lH 4 ?_;go_simp;try rw[ab]
  refine kS (HK.out _ (ij aM (im aQ))) ?_;refine lH 5 ?_;obtain⟨b0,an,al,ak,aj⟩:=info_parts qs;rw[<- ab];refine jZ (w9.alloc (.cells #[k9,o9,t9,z9,s9,.slice A9 o.length c9] 73)) (.tmp 21) (.tmp 24) 63 rfl (ra+1) 73 b0 _ 6 _ underlying63 an al ak aj rfl iI v J.length (J.flatMap jj) rfl (by rw[ab];exact ad.own) _ _ 1 1 [.int .i64 k9,.int .i64 o9,.int .i64 t9,.int .i64 z9,.string s9,.slice A9 o.length c9] rfl (ki (w:=w9) rfl #[k9,o9,t9,z9,s9,.slice A9 o.length c9] 73 _ rfl 1 6 rfl) (by intro u hu;simp only[la]at hu;rcases hu with rfl | rfl | rfl | rfl | rfl | rfl<;>rfl) (by unfold maxLen;omega) iu (by rw[iH];omega) ?_;rw[ab];intro v5 bF a_ a8 aK;clear an al ak aj;obtain⟨A5,c5,rfl,_,_⟩:=ji a_;have aI:=ad.add ld bs (fun b hb=>by (have hb:=vO hb;have:=aR.le;show b<aY.heap.size;omega)) (fun b hb=>(aJ b hb).2) a_ a8 aK;have bq:=br.grown ad.own a8 I iu;have bZ:=kF c0 ad.own a8 I iu;have ai:=oY aX a8 (fun e=>by have:=(ad.own.lt ra e.symm).1;omega);have aG:((.slice A5 (J.length+1) c5):Value).ownBlock≠some ra:=fun e=>by have:=(aI.own.lt ra e).1;omega
  obtain⟨cf,v2,aT,bj,bp,bY,aq,ar⟩:∃z v2,bF.setCell ⟨ra,5,none⟩ (.slice A5 (J.length+1) c5)=z/\v2.ownBlock≠some ra/\Hid (Rd B q A c L en eA ec el z i9)/\ik (iz q w0) (iz q z)/\Hid (iP z ra 73 #[.int .i64 10,.int .i64 0,.int .i64 0,.int .i64 0,s,v2])/\Hid (kZ (ra+1) 73 6 jj RX (fun b=>decide (b<ra+1)) z v2 (J++[Tx.mk k9 o9 t9 z9 s9 A9 c9 o])):=⟨_,(.slice A5 (J.length+1) c5),rfl,aG,bq.set a7 iu 5 _,iJ (k:=⟨by rw[iZ];omega⟩) (h:=bZ) _ _,ai.jx 5 _,aI.set ld (by simp) aG 5 _⟩;have bd:=iy (jW bf.out aF);have bk:(i2+1)<=i9:=aF;try refine kL ?_
  obtain⟨m0,m1,m2,m3,m4,m5⟩:=oN ai;have ml:=jo ai;obtain⟨aD,aC,aB,aA,az,ay⟩:=jU ai;refine lH 6 ?_;go_simp;try refine kL ?_
  refine lH 7 ?_;go_simp;try refine kL ?_
  try rw[aT]
  refine iT kp ?_ _;clear m0 m1 m2 m3 m4 m5 ml aD aC aB aA az ay aT ai bq aI a_ a8 aK aX bs ad br ab aN aL R R9 D9 HK a6 RB OL aJ aM;have RB:=aq;have OL:=ar;clear aq ar;have HX:Hid (X=(rF el m (ll++[x9]) (L.drop i9)).bind fun (l,r)=>(iF [⟨#[41]⟩] r).bind fun (_,r)=>oR el k s l r):=HX;have b5:Hid ((J++[Tx.mk k9 o9 t9 z9 s9 A9 c9 o]).map Tx.er=ll++[x9]):=by (show _=_;rw[s_,ax.out,<- b1];rfl)
  have bh:Hid ((J++[Tx.mk k9 o9 t9 z9 s9 A9 c9 o]).length<=i9+1):=by (show _<=_;rw[mo];have h1:=au.out;have h2:=bk;simp;omega)
  go_wp2_with fail;have hA:=Tl bA bk bp.le cp;go_roundw
  case rel=>exact⟨i9,m,v2,_,_,bd,Nat.le_of_succ_le cm,hA.1,bh,b5,HX,bp,bY,RB,OL⟩
  case measure=>(rw[je bp.out.fields.2.2.1,d1.out];exact hA.2)
 clear HX;intro w2 R2 HX bm a2 bO cD;rw[tail_drop]at HX;have a':Hid (iP w2 ra 73 #[.int .i64 10,.int .i64 0,.int .i64 0,.int .i64 0,s,v]):=iy (kq RB a7 bm);have aa:Hid (kZ (ra+1) 73 6 jj RX (fun b=>decide (b<ra+1)) w2 v J):=OL.iv ld I (by simp[I]) bm;clear RB OL;have RB:=a';have OL:=aa;clear a' aa;have au:=iy (wc au);have bU:20*(L.length-(i0+1))+10<=k:=iu;obtain⟨k',rfl⟩:∃j,k=j+1:=⟨k-1,by omega⟩;have HX:Hid (X=if jq ⟨#[101,118,101,114,121]⟩ (L.drop (i0+1)) then (kV el k' (L.drop (i0+1)).tail).bind fun (x,r)=>some (.mk 10 0 0 1 s (ll++[x]),r) else some (.mk 10 0 0 0 s ll,L.drop (i0+1))):=HX;go_wp2_with fail;refine Dx ⟨#[101,118,101,114,121]⟩ R2 HX a2 bO ?_ ?_
 ·clear HX;intro w3 R3 HX bl a3 bM
  have a':Hid (iP w3 ra 73 #[.int .i64 10,.int .i64 0,.int .i64 0,.int .i64 0,s,v]):=iB (kq RB a7 bl);have aa:Hid (kZ (ra+1) 73 6 jj RX (fun b=>decide (b<ra+1)) w3 v J):=OL.iv ld I (by simp[I]) bl;clear RB OL;have RB:=a';have OL:=aa;clear a' aa;obtain⟨AF,cF,b2,DF⟩:=OL.rx (fun b hb=>lp hb) (by have:=au.out;have h1:=R3.le;have h2:=R3.few;omega) 10 0 0 0 s hS;subst b2;have R:=RB.out;obtain⟨m0,m1,m2,m3,m4,m5⟩:=oN R;have ml:=jo R;obtain⟨aD,aC,aB,aA,az,ay⟩:=jU R;have ae:qP w3 r oE:=lM (HB.out.after (k:=a3)) aS;obtain⟨n0,n1,n2,n3,n4,n5⟩:=ae.cells;have nl:=jo ae;obtain⟨bL,bK,bJ,bI,bH,bG⟩:=jU ae;have E0:RX (old w0.heap.size w3) (.mk 10 0 0 0 s AF cF J):=DF.sub (iS (by omega) _);have aH:(Tx.mk 10 0 0 0 s AF cF J).er=.mk 10 0 0 0 s ll:=by rw[qp,ax.out]
  have b8:Hid (X=some (.mk 10 0 0 0 s ll,L.drop (i0+1))):=HX;obtain⟨YY,aw⟩:=jt (J);rw[aw]at m5 E0 aH;have aw:=iy aw;obtain⟨W,hW,EW,b6,aW,oW,sW⟩:=jY ae R3.out aS (ij (im aw0) a3) (lI hr) iu (.mk 10 0 0 0 s AF cF YY);simp only[txs]at hW;go_wp2_with fail;try rw[hW]
  clear hW;obtain⟨u0,u1,u2,u3,u4,u5⟩:=EW.cells;simp only[txs]at u0 u1 u2 u3 u4 u5;exact jR (v:=.agg #[.int .i64 10,.int .i64 0,.int .i64 0,.int .i64 0,s,.slice AF YY.length cF]) (by simp[results,results179,go_sem,u0,u1,u2,u3,u4,u5]) rfl (lN (x:=.mk 10 0 0 0 s ll) (show X=some (.mk 10 0 0 0 s ll,L.drop (i0+1)) from b8) aW ⟨.mk 10 0 0 0 s AF cF YY,aH,rfl,((E0).below (oW w0.heap.size iu).below).sub (iS iu W)⟩ b6 rfl (bM))
 clear HX;intro w3 R3 HX bl a3 bM cC;rw[tail_drop]at HX;have a':Hid (iP w3 ra 73 #[.int .i64 10,.int .i64 0,.int .i64 0,.int .i64 0,s,v]):=iy (kq RB a7 bl);have aa:Hid (kZ (ra+1) 73 6 jj RX (fun b=>decide (b<ra+1)) w3 v J):=OL.iv ld I (by simp[I]) bl;clear RB OL;have RB:=a';have OL:=aa;clear a' aa;have HC:Hid (∀U,ik w3 U->Calls prog 170 #[.pointer (some q)] U (pk B q A c L en eA ec el U ((i0+1)+1) (kV el k' (L.drop ((i0+1)+1))) (VX U.heap.size))):=fun U hU=>(C k' iu).p U ((i0+1)+1) (R3.after hU) (by have h1:=R3.le;have h2:=bU;omega)
 generalize bt:kV el k' (L.drop ((i0+1)+1))=Y at HC HX;have a6:=RB.out;have HK:Hid (∀U,ik (iz q w3) (iz q U)->U.cell? ⟨ra,5,none⟩=some v):=fun U hU=>((kq a6 a7 hU).cell 5).trans rfl
 have aR:=jo a6;go_wp2_with fail;refine jm (fun U:World=>U.cell? ⟨ra,5,none⟩=some v) [5,6,7] kp ?_;have ah:(fun U:World=>U.cell? ⟨ra,5,none⟩=some v) w3.drew:=HK.out _ iR;refine wT 0 [1,5,6,7] (.pointer (some ⟨ra,5,none⟩)) ah ?_;try simp only[Act.put,sC]
 refine wT 1 [5,6,7] (v) ah ?_;try simp only[Act.put,sC]
 refine wT 2 [3,4,5,6,7] (.pointer (some q)) ah ?_;try simp only[Act.put,sC]
 clear ah;refine lH 3 ?_;go_simp;go_at_call 170;refine (HC.out _ iR).mono ?_;clear HC;rintro e w9 ⟨aZ,hY⟩;have aM:ik (iz q w3) (iz q w9):=ij (im iR) aZ;clear aZ;cases Y with
 |none=>
  obtain⟨a,er,rfl,he⟩:=hY;unfold oD;exact⟨rfl,kf HX.out (ij (im aw0) (ij a3 aM)) (jz a er he)⟩
 |some y=>
 obtain⟨x9,r9⟩:=y;obtain⟨v9,i9,rfl,b3,R9,b4,aF⟩:=hY;subst b4;obtain⟨⟨k9,o9,t9,z9,s9,A9,c9,o⟩,b1,rfl,D9⟩:=b3;rw[JQ k9 o9 t9 z9 s9 A9 c9 o];refine kS (HK.out _ aM) ?_;have aJ:∀g,v.ownBlock=some g->ra+1<=g/\g<w3.heap.size:=fun g hg=>OL.out.own.lt g hg
 have aL:=OL.out.iv ld I (by simp[I]) aM;have R:=kq a6 a7 aM;have bS:J.length<=65537:=by have:=au.out;have:=R9.le;have:=R9.few;omega
 have bQ:ra+1<=w9.heap.size:=R.lt;obtain⟨cd,af,bx,bX,aP⟩:∃v,w9.alloc (.cells #[k9,o9,t9,z9,s9,.slice A9 o.length c9] 73)=v/\Rd B q A c L en eA ec el v i9/\ik (iz q w0) (iz q v)/\ik w9 v:=⟨_,rfl,R9.after iR,ij (ij a3 aM) (im iR),iR⟩;have ag:=aL.after ld aP;have bz:=D9.below (jK aP).below;have b_:=mZ (w:=w9) (k:=aP) R;have aN:=iy af;refine lH 4 ?_;go_simp;try rw[af]
 refine kS (HK.out _ (ij aM (im aP))) ?_;refine lH 5 ?_;obtain⟨b0,an,al,ak,aj⟩:=info_parts qs;rw[<- af];refine jZ (w9.alloc (.cells #[k9,o9,t9,z9,s9,.slice A9 o.length c9] 73)) (.tmp 33) (.tmp 36) 63 rfl (ra+1) 73 b0 _ 6 _ underlying63 an al ak aj rfl iI v J.length (J.flatMap jj) rfl (by rw[af];exact ag.own) _ _ 1 1 [.int .i64 k9,.int .i64 o9,.int .i64 t9,.int .i64 z9,.string s9,.slice A9 o.length c9] rfl (ki (w:=w9) rfl #[k9,o9,t9,z9,s9,.slice A9 o.length c9] 73 _ rfl 1 6 rfl) (by intro u hu;simp only[la]at hu;rcases hu with rfl | rfl | rfl | rfl | rfl | rfl<;>rfl) (by unfold maxLen;omega) iu (by rw[iH];omega) ?_;rw[af];intro v5 bE a_ a8 aK;clear an al ak aj;obtain⟨A5,c5,rfl,_,_⟩:=ji a_;have aO:=ag.add ld bz (fun b hb=>by (have hb:=vO hb;have:=aR.le;show b<w3.heap.size;omega)) (fun b hb=>(aJ b hb).2) a_ a8 aK;have bw:=bx.grown ag.own a8 I iu;have bW:=kF bX ag.own a8 I iu;have ao:=oY b_ a8 (fun e=>by have:=(ag.own.lt ra e.symm).1;omega);have aG:((.slice A5 (J.length+1) c5):Value).ownBlock≠some ra:=fun e=>by have:=(aO.own.lt ra e).1;omega
 obtain⟨bD,v2,b9,bj,c1,bV,aq,ar⟩:∃z v2,bE.setCell ⟨ra,5,none⟩ (.slice A5 (J.length+1) c5)=z/\v2.ownBlock≠some ra/\Hid (Rd B q A c L en eA ec el z i9)/\ik (iz q w0) (iz q z)/\Hid (iP z ra 73 #[.int .i64 10,.int .i64 0,.int .i64 0,.int .i64 0,s,v2])/\Hid (kZ (ra+1) 73 6 jj RX (fun b=>decide (b<ra+1)) z v2 (J++[Tx.mk k9 o9 t9 z9 s9 A9 c9 o])):=⟨_,(.slice A5 (J.length+1) c5),rfl,aG,bw.set a7 iu 5 _,iJ (k:=⟨by rw[iZ];omega⟩) (h:=bW) _ _,ao.jx 5 _,aO.set ld (by simp) aG 5 _⟩;have bc:=iy (jW bM.out aF);have bk:((i0+1)+1)<=i9:=aF;try refine kL ?_
 obtain⟨m0,m1,m2,m3,m4,m5⟩:=oN ao;have ml:=jo ao;obtain⟨aD,aC,aB,aA,az,ay⟩:=jU ao;refine lH 6 ?_;go_simp;try refine kL ?_
 refine lH 7 ?_;go_simp;try refine kL ?_
 try rw[b9]
 refine iT kp ?_ _;clear m0 m1 m2 m3 m4 m5 ml aD aC aB aA az ay b9 ao bw aO a_ a8 aK b_ bz ag bx af aN aL R R9 D9 HK a6 RB OL aJ aM;have RB:=aq;have OL:=ar;clear aq ar;have a6:=RB.out;have aR:=jo a6;obtain⟨ba,c_,b7,bn,aq,ar⟩:∃z,bD.setCell ⟨ra,3,none⟩ (.int .i64 1)=z/\Hid (Rd B q A c L en eA ec el z i9)/\ik (iz q w0) (iz q z)/\Hid (iP z ra 73 #[.int .i64 10,.int .i64 0,.int .i64 0,.int .i64 1,s,v2])/\Hid (kZ (ra+1) 73 6 jj RX (fun b=>decide (b<ra+1)) z v2 (J++[Tx.mk k9 o9 t9 z9 s9 A9 c9 o])):=⟨_,rfl,c1.out.set a7 iu 3 _,iJ (k:=⟨by rw[iZ];omega⟩) (h:=bV) _ _,a6.jx 3 (.int .i64 1),OL.out.set ld (by simp) bj 3 _⟩;have bb:=bc;obtain⟨m0,m1,m2,m3,m4,m5⟩:=oN a6;have ml:=jo a6;obtain⟨aD,aC,aB,aA,az,ay⟩:=jU a6;clear RB OL;have RB:=aq;have OL:=ar;clear aq ar;obtain⟨AF,cF,b2,DF⟩:=OL.out.rx (fun b hb=>lp hb) (by rw[mo];have:=au.out;have h1:=b7.out.le;have h2:=b7.out.few;simp;omega) 10 0 0 1 s hS.out;subst b2;have R:=RB.out;obtain⟨m0,m1,m2,m3,m4,m5⟩:=oN R;have ml:=jo R;obtain⟨aD,aC,aB,aA,az,ay⟩:=jU R;have ae:qP ba r oE:=lM (HB.out.after (k:=bn)) aS;obtain⟨n0,n1,n2,n3,n4,n5⟩:=ae.cells;have nl:=jo ae;obtain⟨bL,bK,bJ,bI,bH,bG⟩:=jU ae;have E0:RX (old w0.heap.size ba) (.mk 10 0 0 1 s AF cF (J++[Tx.mk k9 o9 t9 z9 s9 A9 c9 o])):=DF.sub (iS (by omega) _);have aH:(Tx.mk 10 0 0 1 s AF cF (J++[Tx.mk k9 o9 t9 z9 s9 A9 c9 o])).er=.mk 10 0 0 1 s (ll++[x9]):=by rw[qp,s_,ax.out,<- b1];rfl
 have b8:Hid (X=some (.mk 10 0 0 1 s (ll++[x9]),L.drop i9)):=HX.out;obtain⟨YY,aw⟩:=jt ((J++[Tx.mk k9 o9 t9 z9 s9 A9 c9 o]));rw[aw]at m5 E0 aH;obtain⟨W,hW,EW,b6,aW,oW,sW⟩:=jY ae b7.out aS (ij (im aw0) bn) (lI hr) iu (.mk 10 0 0 1 s AF cF YY);simp only[txs]at hW;go_wp2_with fail;try rw[hW]
 clear hW;obtain⟨u0,u1,u2,u3,u4,u5⟩:=EW.cells;simp only[txs]at u0 u1 u2 u3 u4 u5;exact jR (v:=.agg #[.int .i64 10,.int .i64 0,.int .i64 0,.int .i64 1,s,.slice AF YY.length cF]) (by simp[results,results179,go_sem,u0,u1,u2,u3,u4,u5]) rfl (lN (x:=.mk 10 0 0 1 s (ll++[x9])) (show X=some (.mk 10 0 0 1 s (ll++[x9]),L.drop i9) from b8.out) aW ⟨.mk 10 0 0 1 s AF cF YY,aH,rfl,((E0).below (oW w0.heap.size iu).below).sub (iS iu W)⟩ b6 rfl (bb.out))
end
end
abbrev vZ:=@kZ.nil
end Go.Proofs.YtnigblndonocfaaGreatDoor
