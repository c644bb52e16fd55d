/- A part of the proof. -/
import Derived.Test.YtnigblndonocfaaGreatDoorWPr
set_option linter.unusedVariables false
set_option linter.unusedSimpArgs false
namespace Go.Proofs.YtnigblndonocfaaGreatDoor
open Go.RowKit Go.BigFrame
section
theorem sB (k:Nat) (P:List Pc):(iY (rL k P)).length=2*k+(iY P).length+1:=by
 rw[KB,mo,mo,Pb];rfl
theorem yq {α:Type} {f:α->List Pc} {m:Nat}:∀{l:List α},(∀x∈l,(iY (f x)).length<=m)->(iY (l.flatMap f)).length<=m*l.length
 |[],_=>by simp[ja]
 |a::l,h=>by
  rw[pZ,iC,mo,py,Nat.mul_add,yr];have h1:=h a nG;have h2:=yq (l:=l) fun x hx=>h x (qj _ hx)
  omega
section
variable {el:List iW}
theorem IF (hT:mL el) {x:Tx} (h:qk el x=0):(iY (kX el x.er)).length<=80000:=by
 obtain⟨o,j⟩:=Ki h;rw[zg]at j;have I:=yU hT _ o;omega
theorem Mj (hT:mL el) {k:Nat} (hk:k<=1000) {q:oX} (h:rN el q=0):(iY (zj el k q)).length<=130000:=by
 obtain⟨J,I,o,j,-⟩:=Fz h;have g1:=KL o iu;have U:=IF hT j;have R:(iY (vU q.left.l)).length<=42002:=by
  unfold vU;split
  ·rw[jl,iC,jl,ja];simp;omega
  omega
 unfold zj;rw[sB,iC,jn,jl,jn,iC,jl,ja];simp;omega
theorem My (hT:mL el) {k:Nat} (hk:k<=1000) {wd:List UInt8} (hw:wd.length<=100) {nms:List ByteArray} (hn:∀s∈nms,s.size<=40) {t:ma} (h:qk el t.cond=0):(iY (On el k wd nms t)).length<=90000:=by
 have I:=IF hT h;have J:(nms.getD t.dst.toNat ⟨#[]⟩).size<=40:=by
  rw[wC];cases hg:nms[t.dst.toNat]? with
  |none=>decide
  |some s=>exact hn s (om hg)
 have o:(iY [Aj t.res]).length<=8:=by
  unfold Aj;split<;>decide
 unfold On;rw[sB,kH,jn,iC,jn,show ∀q:List Pc,Aj t.res::q=[Aj t.res]++q from fun _=>rfl,iC,jn,lQ,jl,ja];have j:(nms.getD t.dst.toNat ⟨#[]⟩).data.toList.length=(nms.getD t.dst.toNat ⟨#[]⟩).size:=jr _;simp only[mo,py,wJ];omega
theorem Dc (hT:mL el) (hN:pB el) {k:Nat} (hk:k<=1000) {l:List iO} (h:nN el false l=0) (hl:l.length<=1000):(iY (nr el k l)).length<=600000:=by
 have g:=qC hT hN h hl;unfold nr;split
 ·rw[ja];simp
 rw[sB,kH,jn,iC,jl,ja];simp;omega
mutual
theorem QK (hT:mL el) (hN:pB el):∀(a:AuT) (d k:Nat),rK el d a=0->k<=100+4*d->(iY (CN el k a)).length<=620000*RR a.er
 |.mk A c l,d,k,h,hk=>by
  rw[rK]at h;obtain⟨h0,h⟩:=jI h;have h0:=nJ iI h0;simp only[decide_eq_true_eq]at h0;have h:=(jI (jI h).2).2;have hn:∀s∈l.map StT.name,s.size<=40:=by
   intro s o;obtain⟨x,j,rfl⟩:=yQ.1 o;rw[EL]at h;exact (jM (wP (jd h x j)).2.1).2
  have g:=KO hT hN l d k l.length (l.map StT.name) hn h hk iu;rw[CN,iC,iC,mo,mo,sB,sB,AuT.er,RR];have J:(iY [mB [97,117,116,111,109,97,116,111,110]]).length=9:=iI;have I:(iY [mB [101,110,100]]).length=3:=iI;omega
theorem FM (hT:mL el) (hN:pB el):∀(l:List AuT) (d k:Nat),yu el d l=0->k<=100+4*d->(iY (vN el k l)).length<=620000*sY (AuT.kv l)
 |[],_,_,_,_=>by rw[vN,ja];simp
 |a::l,d,k,h,hk=>by
  rw[yu]at h;have g1:=QK hT hN a d k (jI h).1 hk;have g2:=FM hT hN l d k (jI h).2 hk;rw[vN,iC,mo,AuT.kv,sY];omega
theorem Qv (hT:mL el) (hN:pB el):∀(x:StT) (d k n:Nat) (nms:List ByteArray),(∀s∈nms,s.size<=40)->AM el n d x=0->k<=100+4*d->d<3->(iY (IC el k nms x)).length<=620000*Sh x.er
 |.mk nm lo eq A c au ul ut,d,k,n,nms,hn,h,hk,hd=>by
  have hq:=jM (wP h).2.1;simp only[StT.name]at hq;rw[AM]at h;obtain⟨h1,h⟩:=jI h;obtain⟨h2,h⟩:=jI h;obtain⟨h3,h⟩:=jI h;obtain⟨h4,h⟩:=jI h;obtain⟨h5,h⟩:=jI h;obtain⟨h6,h7⟩:=jI h;have h2:=nJ (by decide) h2;simp only[mT,decide_eq_true_eq]at h2;have g1:=Dc hT hN (k:=k+2) (by omega) h3 (by omega);have g2:(iY (sk el (k+2) [117,110,108,101,115,115] nms ul.l)).length<=90000*ul.l.length:=yq fun t ht=>My hT (by omega) (by decide) hn (Af (jd h6 t ht)).1
  have g3:(iY (sk el (k+2) [117,110,116,105,108] nms ut.l)).length<=90000*ut.l.length:=yq fun t ht=>My hT (by omega) (by decide) hn (Af (jd h7 t ht)).1
  have g4:(iY (eq.l.flatMap (zj el (k+2)))).length<=130000*eq.l.length:=yq fun q hq=>Mj hT (by omega) (jd h4 q hq)
  have g5:=FM hT hN au (d+1) (k+2) h5 iu;have hsl:=jr nm;rw[IC];simp only[iC,mo,sB];rw[StT.er,Sh,pE,pE,pE];have e1:(iY [mB [115,116,97,116,101],.sp 32,rM nm]).length<=46:=by rw[kH,jn,lQ,ja];simp;omega
  have e2:(iY [mB [100,111]]).length=2:=iI;have e3:(iY [mB [100,111,110,101]]).length=4:=iI;omega
theorem KO (hT:mL el) (hN:pB el):∀(l:List StT) (d k n:Nat) (nms:List ByteArray),(∀s∈nms,s.size<=40)->yA el n d l=0->k<=100+4*d->d<3->(iY (wi el k nms l)).length<=620000*LI (StT.kv l)
 |[],_,_,_,_,_,_,_,_=>by rw[wi,ja];simp
 |x::l,d,k,n,nms,hn,h,hk,hd=>by
  rw[yA]at h;have g1:=Qv hT hN x d k n nms hn (jI h).1 hk hd;have g2:=KO hT hN l d k n nms hn (jI h).2 hk hd;rw[wi,iC,mo,StT.kv,LI];omega
end
theorem M6 (hT:mL el) (hN:pB el) {n:nh} (h:mY el n=0):(iY (qo el n)).length<=4000000+620000*(n.eqs.l.length+sY (AuT.kv n.autos.l)):=by
 obtain⟨k1,k2,k3,k4,k5,k6,k7,k8,k9,a8,J,a7,I,a6,o,a1⟩:=yW h;have R:=jM k1;have g1:=qC hT hN k2 iu;have g2:=qC hT hN k3 iu;have g3:=Dc hT hN (k:=1) iu k4 iu;have U:∀(j:List UInt8),j.length<=10->∀l:List Tx,iw (qk el) l=0->(iY (l.flatMap (kI el j))).length<=81000*l.length:=fun j hk l hl=>yq fun x hx=>by
  have:=IF hT (jd hl x hx);unfold kI;rw[sB,kH,jn,iC,jl,ja];simp;omega
 have g4:=U [97,115,115,117,109,101] iI n.assume.l I;have g5:=U [101,110,115,117,114,101] iI n.ensure.l o;have g6:(iY (n.eqs.l.flatMap (zj el 1))).length<=130000*n.eqs.l.length:=yq fun q R=>Mj hT (by omega) (jd k9 q R)
 have g7:=FM hT hN n.autos.l 0 1 (by rw[Ff];exact J) iu;have a_:=jr n.name;have e1:(iY (ya el n)).length<=1005000:=by
  unfold ya;rw[sB,kH,jn,lQ,jl,iC,jl,jn,kH,jn,jl,iC,jl,ja];simp;omega
 have e2:(iY [mB [108,101,116]]).length=3:=iI;have e3:(iY [mB [116,101,108]]).length=3:=iI;unfold qo qJ;simp only[iC,mo,sB];omega
theorem DB (hT:mL el) (hN:pB el):∀(l:List nh),(∀n∈l,mY el n=0)->(iY (l.flatMap (qo el))).length<=4000000*l.length+620000*yh (l.map nh.er)
 |[],_=>by simp[ja]
 |n::l,h=>by
  have g1:=M6 hT hN (h n nG);have g2:=DB hT hN l fun x hx=>h x (qj _ hx)
  have e1:sY (n.er).autos=sY (AuT.kv n.autos.l):=by
   show sY (n.autos.l.map AuT.er)=_
   have:∀l:List AuT,l.map AuT.er=AuT.kv l:=fun l=>by
    induction l with
    |nil=>rw[AuT.kv];rfl
    |cons a l ih=>rw[mJ,AuT.kv,ih]
   rw[this]
  have j:(n.er).eqs.length=n.eqs.l.length:=by show (n.eqs.l.map oX.er).length=_;rw[pE]
  rw[pZ,iC,mo,mJ,yh,e1,j,py];omega
theorem NK {nl:List nh} (h:(nv el nl).2.2=0) (hw:yh (nl.map nh.er)<=65536):(iY (qK el nl)).length<=140737488355328:=by
 obtain⟨a6,a1,o,h2⟩:=uX h;have hT:mL el:=fun u j t R=>(jM (nS (jd (qm (o u j)).2.2.2 t R))).2
 have hN:pB el:=fun u j=>(jM (qm (o u j)).1).2
 have g1:=DB hT hN nl h2;have g2:(iY (el.flatMap sF)).length<=50000*el.length:=yq fun u j=>by
  obtain⟨J,i2,i3,I⟩:=qm (o u j);have:=Gs I (by omega);have:=jM J;have U:u.name.data.toList.length=u.name.size:=jr u.name;unfold sF;rw[sB,kH,jn,lQ,jn,jl,jn,iC,jl,ja];simp;omega
 unfold qK;rw[iC,mo];omega
end
end
section
structure P5 (n1:Nat) (F:Nat->Bool) (w:World):Prop where
 low:∀b,b<n1->F b=true
 lim:∀b,F b=true->b<w.heap.size
structure pP {α:Type} (n1:Nat) (T:TypeId) (sz:Nat) (cells:α->List Value) (ok:World->α->Prop) (F:Nat->Bool) (w:World) (v:Value) (l:List α):Prop where
 own:w.ownsRow n1 T sz v l.length (l.flatMap cells)
 cov:∀b,v.ownBlock=some b->F b=true
 inn:∀y∈l,ok (kK F w) y
section
variable {α:Type} {n1 m n k:Nat} {T:TypeId} {sz:Nat} {cells:α->List Value} {ok:World->α->Prop} {F G S:Nat->Bool} {w w':World} {v v' u:Value} {l:List α} {q:Nat} {xs:List Value}
theorem lF {b:Nat} (h:F b=true):iD F v b=true:=by unfold iD;rw[h];rfl
theorem pr {b:Nat} (h:v.ownBlock=some b):iD F v b=true:=by unfold iD;rw[h];simp
theorem vI {b:Nat} (h:iD F v b=true):F b=true\/v.ownBlock=some b:=by
 unfold iD at h;simpa only[uG,beq_iff_eq] using h
theorem P5.after (h:P5 n1 F w) (hs:w.heap.size<=w'.heap.size):P5 n1 F w':=⟨h.low,fun b hb=>rO (h.lim b hb) hs⟩
theorem P5.add (h:P5 n1 F w) (hs:w.heap.size<=w'.heap.size) (hv:∀b,v.ownBlock=some b->b<w'.heap.size):P5 n1 (iD F v) w':=
 ⟨fun b hb=>lF (h.low b hb),fun b hb=>by
  rcases vI hb with hb | hb
  ·exact rO (h.lim b hb) hs
  exact hv b hb⟩
theorem yN (a:ik (kK F w) (kK G w')) (hv:∀b,v.ownBlock=some b->w.heap.size<=b):ik (kK F w) (kK (iD G v) w'):=by
 refine⟨⟨a.below.os,a.below.tape,a.below.output,by have h:=a.below.size;rw[pt,pt]at h⊢;exact h,fun b j=>?_⟩⟩;have o:=a.below.block b j;have e:iD G v b=G b:=by
  have:v.ownBlock≠some b:=fun e=>by have:=hv b e;rw[pt]at j;omega
  unfold iD;simp[this]
 rw[<- o];unfold kK;simp only[Array.getElem?_mapIdx,e]
theorem C4 (g:w.grownBy w' v.ownBlock) (hv:∀b,v.ownBlock=some b->F b=true) (hb:v'.ownBlock=v.ownBlock\/v'.ownBlock=some w.heap.size):ik (kK F w) (kK (iD F v') w'):=by
 refine vx g.os g.tape g.output g.size fun b j=>⟨?_,fun e=>g.block b j fun o=>?_⟩
 ·unfold iD
  rcases hb with hb | hb
  ·rw[hb]
   cases hF:F b with
   |true=>rfl
   |false=>
   have:v.ownBlock≠some b:=fun e=>by rw[hv b e]at hF;cases hF
   simp[this]
  rw[hb];have:w.heap.size≠b:=iu;simp[this]
 rw[hv b o.symm]at e;cases e
theorem Nq (h:w.ownsRow m T sz v k xs) (hm:n1<=m):w.ownsRow n1 T sz v k xs:=by
 refine⟨h.1,?_⟩;rcases h.2 with j | ⟨g,cap,cur,e,hb,rest⟩
 ·exact .inl j
 exact .inr ⟨g,cap,cur,e,jW hm hb,rest⟩
theorem Pd (h:w.ownsRow n1 T sz v k xs) (hS:∀b,v.ownBlock=some b->F b=false):(kK F w).ownsRow n1 T sz v k xs:=by
 refine⟨h.1,?_⟩;rcases h.2 with j | ⟨g,cap,cur,e,hb,hgg,rest⟩
 ·exact .inl j
 refine .inr ⟨g,cap,cur,e,hb,?_,rest⟩;rw[xk w (hS g (by rw[e];rfl))];exact hgg
theorem Aq (h:w.ownsRow n1 T sz u k xs) (g:w.grownBy w' v.ownBlock) (hne:∀b,u.ownBlock=some b->v.ownBlock≠some b):w'.ownsRow n1 T sz u k xs:=by
 refine⟨h.1,?_⟩;rcases h.2 with I | ⟨gg,cap,cur,e,hbb,hgg,rest⟩
 ·exact .inl I
 refine .inr ⟨gg,cap,cur,e,hbb,?_,rest⟩;have j:gg<w.heap.size:=by
  rcases qa gg w.heap.size with o | o
  ·exact o
  rw[FF o]at hgg;cases hgg
 rw[g.block gg j (fun J=>hne gg (by rw[e];rfl) J.symm)];exact hgg
theorem kh (h:w.ownsRow n1 T sz v k xs) {r:Nat} (hv:v.ownBlock≠some r) (i:Nat) (x:Value):(w.setCell ⟨r,i,none⟩ x).ownsRow n1 T sz v k xs:=by
 refine⟨h.1,?_⟩;rcases h.2 with j | ⟨g,cap,cur,e,hb,hgg,rest⟩
 ·exact .inl j
 refine .inr ⟨g,cap,cur,e,hb,?_,rest⟩;rw[Below.heap_setCell w _ x g (by show g≠r;rintro rfl;exact hv (by rw[e];rfl))];exact hgg
theorem pP.lt (h:pP n1 T sz cells ok F w v l) {b:Nat} (e:v.ownBlock=some b):n1<=b/\b<w.heap.size:=h.own.lt b e
theorem pP.nil:pP n1 T sz cells ok F w (.slice none 0 0) ([]:List α):=⟨FL ..,(fun b hb=>by cases hb),(fun y hy=>by cases hy)⟩
theorem pP.step (h:pP n1 T sz cells ok F w v l) (hm:pH ok) (own:w'.ownsRow n1 T sz v l.length (l.flatMap cells)) (a:ik (kK F w) (kK G w')) (hG:∀b,F b=true->G b=true):pP n1 T sz cells ok G w' v l:=
 ⟨own,fun b hb=>hG b (h.cov b hb),fun y hy=>hm.below _ _ _ a.below (h.inn y hy)⟩
theorem pP.iv (h:pP n1 T sz cells ok F w v l) (hm:pH ok) (hq:q<n1) (hF:F q=true) (a:ik (iz q w) (iz q w')):pP n1 T sz cells ok F w' v l:=
 h.step hm (tM (nF (sG h.own hq) a) hq) (j_ (q:=q) hF a) fun _ h=>h
theorem pP.after (h:pP n1 T sz cells ok F w v l) (hm:pH ok) (a:ik w w'):pP n1 T sz cells ok F w' v l:=
 h.step hm (nF h.own a) (oS a) fun _ h=>h
theorem pP.wide (h:pP n1 T sz cells ok F w v l) (hm:pH ok) (hq:q<n1) (a:ik (iz q w) (iz q w')) (aF:ik (kK F w) (kK G w')) (hG:∀b,F b=true->G b=true):pP n1 T sz cells ok G w' v l:=
 h.step hm (tM (nF (sG h.own hq) a) hq) aF hG
theorem pP.grow (h:pP n1 T sz cells ok F w v l) (hm:pH ok) {ys:List α} (hy:∀y∈ys,ok (kK F w) y) (own:w'.ownsRow n1 T sz v' (l++ys).length ((l++ys).flatMap cells)) (g:w.grownBy w' v.ownBlock) (hb:v'.ownBlock=v.ownBlock\/v'.ownBlock=some w.heap.size):pP n1 T sz cells ok (iD F v') w' v' (l++ys):=
 ⟨own,fun b hb=>pr hb,fun y hy'=>hm.below _ _ _ (C4 g h.cov hb).below (by
  rcases ue.1 hy' with h1 | h1
  ·exact h.inn y h1
  exact hy y h1)⟩
theorem pP.pO (h:pP n1 T sz cells ok F w u l) (hm:pH ok) (g:w.grownBy w' v.ownBlock) (hv:∀b,v.ownBlock=some b->F b=true) (hb:v'.ownBlock=v.ownBlock\/v'.ownBlock=some w.heap.size) (hne:∀b,u.ownBlock=some b->v.ownBlock≠some b):pP n1 T sz cells ok (iD F v') w' u l:=
 h.step hm (Aq h.own g hne) (C4 g hv hb) fun _ h=>lF h
theorem pP.lW (h:pP n1 T sz cells ok F w v l) (hm:pH ok) {r:Nat} (hr:F r=true) (hne:v.ownBlock≠some r) (i:Nat) (x:Value):pP n1 T sz cells ok F (w.setCell ⟨r,i,none⟩ x) v l:=
 h.step hm (kh h.own hne i x) (kJ hr _ _ _) fun _ h=>h
theorem AR (hc:∀y,(cells y).length=sz):∀(l:List α) (k j:Nat) (y y':α) (x:Value),l[k]?=some y->j<sz->(cells y).set j x=cells y'->(l.flatMap cells).set (k*sz+j) x=(l.set k y').flatMap cells
 |[],k,j,y,y',x,h,_,_=>by simp at h
 |a::l,0,j,y,y',x,h,hj,hx=>by
  simp at h;subst h;rw[pZ,zH,t_,List.set_append_left _ _ (by rw[hc];exact hj),hx,oB,pZ]
 |a::l,k+1,j,y,y',x,h,hj,hx=>by
  have ih:=AR hc l k j y y' x (by simpa using h) hj hx;rw[pZ,List.set_append_right _ _ (by rw[hc,Nat.succ_mul];omega),hc,show (k+1)*sz+j-sz=k*sz+j by rw[Nat.succ_mul];omega,ih,oq,pZ]
theorem pP.Ok (h:pP n1 T sz cells ok F w v l) (hm:pH ok) (hc:∀y,(cells y).length=sz) {g c:Nat} (e:v=.slice (some g) l.length c) {k j:Nat} {y y':α} {x:Value} (hk:l[k]?=some y) (hj:j<sz) (hx:(cells y).set j x=cells y') (hy:ok (kK F w) y'):pP n1 T sz cells ok F (w.setCell ⟨g,k*sz+j,none⟩ x) v (l.set k y'):=by
 subst e;have I:=h.cov g rfl;have J:=(h.own.stored (k*sz+j) x).1;rw[AR hc l k j y y' x hk hj hx]at J;refine⟨by rw[Gh];exact J,h.cov,fun z o=>hm.below _ _ _ (kJ I _ _ _).below ?_⟩;rcases Lj o with o | o
 ·exact h.inn z o
 subst o;exact hy
theorem pP.Ol (h:kZ m T sz cells ok S w v l) (hm:pH ok) (hn:n1<=m) (hG:∀b,G b=true->iD S v b=true) (hv:∀b,v.ownBlock=some b->G b=true):pP n1 T sz cells ok G w v l:=
 ⟨Nq h.own hn,hv,fun y hy=>hm.sub _ _ _ (rp hG w) (h.inn y hy)⟩
theorem kZ.Sw {P:World->Nat->Nat->α->Prop} (h:kZ m T sz cells ok S w v l) (hm:pH ok) (hc:∀y,(cells y).length=sz) (hl:l.length<=140737488355328)
  (hP:∀W b o y,ok W y->(∀j u,(cells y)[j]?=some u->W.cell? ⟨b,o+j,none⟩=some u)->P W b o y) (hS:∀b,v.ownBlock=some b->S b=false):∃A c,v=.slice A l.length c/\ir sz P (kK S w) ⟨A,c,l⟩:=
 KK hc (Pd h.own hS) hl fun b o y _ hy hj=>hP _ b o y (hm.sub _ _ _ (rp (fun _ h=>lF h) w) (h.inn y hy)) hj
theorem pP.row {P:World->Nat->Nat->α->Prop} {A:Option Addr} {c:Nat} (h:pP n1 T sz cells ok F w (.slice A l.length c) l) (hm:pH ok) (hF:∀b,b<n1->F b=true) (hc:∀y,(cells y).length=sz) (hl:l.length<=140737488355328)
  (hP:∀W b o y,ok W y->(∀j u,(cells y)[j]?=some u->W.cell? ⟨b,o+j,none⟩=some u)->P W b o y):ir sz P (old n1 w) ⟨A,c,l⟩:=by
 obtain⟨A',U,e,R⟩:=KK (P:=P) hc (Bw h.own) hl fun b o y _ I J=>hP _ b o y (hm.sub _ _ _ (sZ w hF) (h.inn y I)) J
 injection e with e1 e2 e3
 subst e1;subst e3;exact R
theorem pP.PZ {P:World->Nat->Nat->α->Prop} {A:Option Addr} {c:Nat} (h:pP n1 T sz cells ok F w (.slice A l.length c) l) (hm:pH ok) (hc:∀y,(cells y).length=sz) (hl:l.length<=140737488355328)
  (hP:∀W b o y,ok W y->(∀j u,(cells y)[j]?=some u->W.cell? ⟨b,o+j,none⟩=some u)->P W b o y):ir sz P w ⟨A,c,l⟩:=by
 obtain⟨A',U,e,R⟩:=KK (P:=P) hc h.own hl fun b o y _ I J=>hP _ b o y (hm.sub _ _ _ (Ov F w) (h.inn y I)) J
 injection e with e1 e2 e3
 subst e1;subst e3;exact R
end
end
section
open Go.Proofs.Tryz
abbrev Gl:=ByteArray×Nat
def Dg (W:World) (b o:Nat) (y:Gl):Prop:=W.cell? ⟨b,o,none⟩=some (.string y.1)/\W.cell? ⟨b,o+1,none⟩=some (.int .i64 (y.2:Nat))/\y.1.size<=65536/\y.2<=65536
theorem lB:tO Dg:=fun w w' b o y hb hlt h=>⟨(mH hb hlt).trans h.1,(mH hb hlt).trans h.2.1,h.2.2⟩
theorem CK:Ai Dg:=fun W w b o y k h=>⟨k.cell _ _ _ h.1,k.cell _ _ _ h.2.1,h.2.2⟩
def E_ (g:nB Gl):List Value:=[.slice g.A g.l.length g.c]
def SD (W:World) (g:nB Gl):Prop:=ir 2 Dg W g
theorem vp:pH SD:=⟨fun W W' y hb h=>h.below lB hb,fun W w y k h=>v_ CK h k⟩
theorem Mf {W:World} {b o:Nat} {y:Gl} (h:GF W y) (hj:∀j u,(qg y)[j]?=some u->W.cell? ⟨b,o+j,none⟩=some u):Dg W b o y:=⟨hj 0 _ rfl,hj 1 _ rfl,h⟩
def TD (W:World) (b o:Nat) (y:nB Gl):Prop:=W.cell? ⟨b,o,none⟩=some (.slice y.A y.l.length y.c)/\ir 2 Dg W y
theorem Oa {W:World} {b o:Nat} {y:nB Gl} (h:SD W y) (hj:∀j u,(E_ y)[j]?=some u->W.cell? ⟨b,o+j,none⟩=some u):TD W b o y:=⟨hj 0 _ rfl,h⟩
theorem Ro:(prog.info? 237).map (fun i=>(i.zero,i.size,i.bytes))=some (some (.slice none 0 0),1,24):=by kernel_rfl
theorem QJ:(prog.info? 184).map (fun i=>(i.zero,i.size,i.bytes))=some (some (.agg #[.string ⟨#[]⟩,.slice none 0 0,.slice none 0 0,.slice none 0 0,.slice none 0 0,.slice none 0 0]),6,136):=by kernel_rfl
structure SR where
 st:StT
 ug:nB Gl
 vg:nB Gl
def I6 (x:StT):List Value:=[.string x.name,.slice x.locals.A x.locals.l.length x.locals.c,.slice x.eqs.A x.eqs.l.length x.eqs.c,.slice x.ad x.autos.length x.cap,.slice x.unl.A x.unl.l.length x.unl.c,.slice x.unt.A x.unt.l.length x.unt.c]
def sN (r:SR):List Value:=I6 r.st
structure Tt (W:World) (x:StT):Prop where
 nm:x.name.size<=65536
 lo:ir 3 jG W x.locals
 eq:ir 7 (xv True) W x.eqs
 au:ir 1 (xM True) W ⟨x.ad,x.cap,x.autos⟩
def Mc (W:World) (r:SR):Prop:=Tt W r.st
theorem si:tO (xM True):=qO
theorem NB:pH Tt:=⟨fun W W' y hb h=>⟨h.nm,h.lo.below iM hb,h.eq.below mX hb,h.au.below si hb⟩,fun W w y k h=>⟨h.nm,h.lo.sub ky k,h.eq.sub uU k,v_ wY h.au k⟩⟩
theorem sT:pH Mc:=⟨fun W W' y hb h=>NB.below W W' y.st hb h,fun W w y k h=>NB.sub W w y.st k h⟩
theorem Ja {W:World} {b o:Nat} {y:SR} (h:Mc W y) (hj:∀j u,(sN y)[j]?=some u->W.cell? ⟨b,o+j,none⟩=some u):Bp W b o y.st:=
 ⟨hj 0 _ rfl,hj 1 _ rfl,hj 2 _ rfl,hj 3 _ rfl,hj 4 _ rfl,hj 5 _ rfl⟩
def yv (t:List ma) (g:List Gl):List wo:=List.zipWith (fun (t:ma) (g:Gl)=>wo.mk t.cond.er t.res g.1) t g
def SR.sn (r:SR):Ci:=⟨r.st.name,r.st.locals.l.map iO.er,r.st.eqs.l.map oX.er,r.st.autos.map AuT.er,yv r.st.unl.l r.ug.l,yv r.st.unt.l r.vg.l⟩
theorem QP (l:List AuT):AuT.kv l=l.map AuT.er:=by
 induction l with
 |nil=>rw[AuT.kv];rfl
 |cons a l ih=>rw[AuT.kv,ih];rfl
theorem Rs (l:List StT):StT.kv l=l.map StT.er:=by
 induction l with
 |nil=>rw[StT.kv];rfl
 |cons a l ih=>rw[StT.kv,ih];rfl
def Qc (l:List Value):Prop:=∀(i j:Nat) (v v':Value),i≠j->l[i]?=some v->l[j]?=some v'->∀b,v.ownBlock=some b->v'.ownBlock≠some b
theorem Qc.snoc {l:List Value} (h:Qc l) {u:Value} (hu:∀v∈l,∀b,v.ownBlock=some b->u.ownBlock≠some b):Qc (l++[u]):=by
 intro i j v v' U I o b hb;rcases qa i l.length with R | R<;>rcases qa j l.length with J | J
 ·rw[wk R]at I
  rw[wk J]at o;exact h i j v v' U I o b hb
 ·rw[wk R]at I
  rw[xK J]at o;have e:=om o;simp only[la]at e;subst e;exact hu v (om I) b hb
 ·rw[xK R]at I
  rw[wk J]at o;have e:=om I;simp only[la]at e;subst e;exact fun e2=>hu v' (om o) b e2 hb
 exfalso;have h3:=(rq.1 I).1;have h4:=(rq.1 o).1;simp at h3 h4;omega
theorem Qc.set {l:List Value} (h:Qc l) {k:Nat} {u:Value} (hu:∀i v,i≠k->l[i]?=some v->∀b,v.ownBlock=some b->u.ownBlock≠some b):Qc (l.set k u):=by
 intro i j v U J I o b R;rw[I']at I o;split at I<;>split at o
 ·omega
 ·rename_i e1 e2
  split at I
  ·injection I with I;subst I
   exact fun e=>hu j U iu o b e R
  cases I
 ·rename_i e1 e2
  split at o
  ·injection o with o;subst o
   exact hu i v iu I b R
  cases o
 exact h i j v U J I o b R
def my (rs:List SR):List Value:=rs.flatMap fun r=>[r.st.unl.val,r.st.unt.val]
theorem qq:∀{rs:List SR} {i:Nat} {r:SR},rs[i]?=some r->(my rs)[2*i]?=some r.st.unl.val/\(my rs)[2*i+1]?=some r.st.unt.val
 |[],i,r,h=>by simp at h
 |a::rs,0,r,h=>by
  simp at h;subst h;exact⟨rfl,rfl⟩
 |a::rs,i+1,r,h=>by
  have ih:=qq (rs:=rs) (i:=i) (r:=r) (by simpa using h);show ((_::_::my rs):List Value)[2*(i+1)]?=_/\((_::_::my rs):List Value)[2*(i+1)+1]?=_
  rw[show 2*(i+1)=2*i+1+1 by omega];exact ih
theorem oI (rs:List SR):(my rs).length=2*rs.length:=by
 induction rs with
 |nil=>rfl
 |cons a rs ih=>show (my rs).length+1+1=_;rw[ih,py];omega
def ng (vS vG:Value) (rs:List SR) (ps:List Value):List Value:=vS::vG::(my rs++ps)
structure pC (n1:Nat) (F:Nat->Bool) (w:World) (vS vG:Value) (rs:List SR) (gs:List (nB Gl)) (ps:List Value):Prop where
 fam:P5 n1 F w
 st:pP n1 184 6 sN Mc F w vS rs
 go:pP n1 237 1 E_ SD F w vG gs
 un:∀(i:Nat) (r:SR),rs[i]?=some r->pP n1 223 8 kx vo F w r.st.unl.val r.st.unl.l
 ut:∀(i:Nat) (r:SR),rs[i]?=some r->pP n1 223 8 kx vo F w r.st.unt.val r.st.unt.l
 pc:∀v∈ps,∀b,v.ownBlock=some b->F b=true
 dif:Qc (ng vS vG rs ps)
section
variable {n1 q:Nat} {F:Nat->Bool} {w w':World} {vS vG v:Value} {rs:List SR} {gs:List (nB Gl)} {ps:List Value}
theorem pC.nil (h:n1<=w.heap.size):pC n1 (fun b=>decide (b<n1)) w (.slice none 0 0) (.slice none 0 0) [] [] []:=by
 refine⟨⟨fun b I=>lp I,fun b I=>by have:=vO I;omega⟩,pP.nil,pP.nil,(fun i r h=>by simp at h),(fun i r h=>by simp at h),(fun v h=>by cases h),?_⟩;intro i j v R J o U b I
 match i,o with
 |0,o=>injection o with o;subst o;cases I
 |1,o=>injection o with o;subst o;cases I
 |i+2,o=>simp[ng,my]at o
theorem pC.cov (h:pC n1 F w vS vG rs gs ps):∀v∈ng vS vG rs ps,∀b,v.ownBlock=some b->F b=true:=by
 intro v j b o;simp only[ng,uW,ue]at j;rcases j with rfl | rfl | j | j
 ·exact h.st.cov b o
 ·exact h.go.cov b o
 ·obtain⟨r,J,j⟩:=List.mem_flatMap.1 j
  obtain⟨i,I⟩:=List.mem_iff_getElem?.1 J;simp only[la]at j;rcases j with rfl | rfl
  ·exact (h.un i r I).cov b o
  exact (h.ut i r I).cov b o
 exact h.pc v j b o
theorem pC.iv (h:pC n1 F w vS vG rs gs ps) (hq:q<n1) (a:ik (iz q w) (iz q w')):pC n1 F w' vS vG rs gs ps:=by
 have I:=a.below.size;rw[iZ,iZ]at I;have j:=h.fam.low q hq;exact⟨h.fam.after I,h.st.iv sT hq j a,h.go.iv vp hq j a,fun i r o=>(h.un i r o).iv jF hq j a,fun i r o=>(h.ut i r o).iv jF hq j a,h.pc,h.dif⟩
theorem pC.after (h:pC n1 F w vS vG rs gs ps) (a:ik w w'):pC n1 F w' vS vG rs gs ps:=
 ⟨h.fam.after a.below.size,h.st.after sT a,h.go.after vp a,fun i r hr=>(h.un i r hr).after jF a,fun i r hr=>(h.ut i r hr).after jF a,h.pc,h.dif⟩
theorem pC.KU (h:pC n1 F w vS vG rs gs ps) {r:Nat} (hr:F r=true) (hne:∀v∈ng vS vG rs [],v.ownBlock≠some r) (i:Nat) (x:Value):pC n1 F (w.setCell ⟨r,i,none⟩ x) vS vG rs gs ps:=by
 have J:∀(j:Nat) (o:SR),rs[j]?=some o->o.st.unl.val.ownBlock≠some r/\o.st.unt.val.ownBlock≠some r:=fun j o I=>
  ⟨hne _ (by simp only[ng,uW,ue];exact .inr (.inr (.inl (om (qq I).1)))),hne _ (by simp only[ng,uW,ue];exact .inr (.inr (.inl (om (qq I).2))))⟩
 exact⟨h.fam.after (lI (jc ..).symm),h.st.lW sT hr (hne _ (by simp[ng])) i x,h.go.lW vp hr (hne _ (by simp[ng])) i x,
  fun j o I=>(h.un j o I).lW jF hr (J j o I).1 i x,fun j o I=>(h.ut j o I).lW jF hr (J j o I).2 i x,h.pc,h.dif⟩
theorem pC.P0 (h:pC n1 F w vS vG rs gs ps) {r:Nat} (hr:r<n1) (i:Nat) (x:Value):pC n1 F (w.setCell ⟨r,i,none⟩ x) vS vG rs gs ps:=
 h.KU (h.fam.low r hr) (fun v hv e=>by
  simp only[ng,uW,ue]at hv;have hb:n1<=r:=by
   rcases hv with rfl | rfl | hv | hv
   ·exact (h.st.lt e).1
   ·exact (h.go.lt e).1
   ·obtain⟨o,j,hv⟩:=List.mem_flatMap.1 hv
    obtain⟨i,I⟩:=List.mem_iff_getElem?.1 j;simp only[la]at hv;rcases hv with rfl | rfl
    ·exact ((h.un i o I).lt e).1
    exact ((h.ut i o I).lt e).1
   cases hv
  omega) i x
theorem pC.zR (h:pC n1 F w vS vG rs gs (v::ps)) {r:Nat} (hr:v.ownBlock=some r) (i:Nat) (x:Value):pC n1 F (w.setCell ⟨r,i,none⟩ x) vS vG rs gs (v::ps):=
 h.KU (h.pc v (nG ..) r hr) (fun u hu e=>by
  have hv:(ng vS vG rs (v::ps))[2*rs.length+2]?=some v:=by
   show (my rs++v::ps)[2*rs.length]?=_
   rw[xK (by rw[oI];omega),oI,Nat.sub_self];rfl
  obtain⟨j,J⟩:=List.mem_iff_getElem?.1 hu;have o:=(rq.1 J).1;have U:(ng vS vG rs []).length=2*rs.length+2:=by unfold ng;simp[oI]
  have I:(ng vS vG rs (v::ps))[j]?=some u:=by
   have R:ng vS vG rs (v::ps)=ng vS vG rs []++(v::ps):=by unfold ng;simp
   rw[R,wk o];exact J
  exact h.dif j (2*rs.length+2) u v (by omega) I hv r e hr) i x
theorem pC.join (h:pC n1 F w vS vG rs gs ps) (hq:q<n1) (a:ik (iz q w) (iz q w')) (hv:∀b,v.ownBlock=some b->w.heap.size<=b/\b<w'.heap.size):pC n1 (iD F v) w' vS vG rs gs (ps++[v]):=by
 have U:=a.below.size;rw[iZ,iZ]at U;have hF:=h.fam.low q hq;have J:ik (kK F w) (kK (iD F v) w'):=yN (j_ (q:=q) hF a) fun b j=>(hv b j).1
 have I:∀b,F b=true->iD F v b=true:=fun b j=>lF j
 refine⟨h.fam.add U fun b j=>(hv b j).2,h.st.wide sT hq a J I,h.go.wide vp hq a J I,fun i r R=>(h.un i r R).wide jF hq a J I,fun i r R=>(h.ut i r R).wide jF hq a J I,fun u o b j=>?_,?_⟩
 ·rcases ue.1 o with o | o
  ·exact lF (h.pc u o b j)
  simp only[la]at o;subst o;exact pr j
 have e:ng vS vG rs (ps++[v])=ng vS vG rs ps++[v]:=by unfold ng;simp
 rw[e];exact h.dif.snoc fun u o b j e2=>by
  have h1:=h.fam.lim b (h.cov u o b j);have:=(hv b e2).1;omega
theorem pC.grow {v':Value} {ys:List SR} (h:pC n1 F w vS vG rs gs (v::ps)) (hp:ps=my ys) (hy:∀y∈ys,Mc (kK F w) y)
  (hu:∀y∈ys,pP n1 223 8 kx vo F w y.st.unl.val y.st.unl.l) (ht:∀y∈ys,pP n1 223 8 kx vo F w y.st.unt.val y.st.unt.l)
  (own:w'.ownsRow n1 184 6 v' (rs++ys).length ((rs++ys).flatMap sN)) (g:w.grownBy w' vS.ownBlock) (hb:v'.ownBlock=vS.ownBlock\/v'.ownBlock=some w.heap.size):pC n1 (iD F v') w' v' vG (rs++ys) gs []:=by
 subst hp;have o:∀i u,i≠0->(ng vS vG rs (v::my ys))[i]?=some u->∀b,u.ownBlock=some b->vS.ownBlock≠some b:=fun i u hi I b hb=>by
  exact fun e=>h.dif 0 i vS u iu rfl I b e hb
 have hT:∀(i:Nat) (r:SR),rs[i]?=some r->(∀b,r.st.unl.val.ownBlock=some b->vS.ownBlock≠some b)/\(∀b,r.st.unt.val.ownBlock=some b->vS.ownBlock≠some b):=fun i r J=>by
  have U:=(rq.1 J).1;have h2:=qq J;exact⟨o (2*i+2) _ iu (by show (my rs++_)[2*i]?=_;rw[wk (by rw[oI];omega)];exact h2.1),
   o (2*i+1+2) _ iu (by show (my rs++_)[2*i+1]?=_;rw[wk (by rw[oI];omega)];exact h2.2)⟩
 have hY:∀(i:Nat) (r:SR),ys[i]?=some r->(∀b,r.st.unl.val.ownBlock=some b->vS.ownBlock≠some b)/\(∀b,r.st.unt.val.ownBlock=some b->vS.ownBlock≠some b):=fun i r J=>by
  have h2:=qq J;have e:∀j,(ng vS vG rs (v::my ys))[j+1+2*rs.length+2]?=(my ys)[j]?:=fun j=>by
   show (my rs++v::my ys)[j+1+2*rs.length]?=_
   rw[xK (by rw[oI];omega),oI,show j+1+2*rs.length-2*rs.length=j+1 by omega];rfl
  exact⟨o _ _ iu ((e _).trans h2.1),o _ _ iu ((e _).trans h2.2)⟩
 refine⟨h.fam.add g.size fun b e=>(own.lt b e).2,h.st.grow sT hy own g hb,h.go.pO vp g h.st.cov hb (o 1 vG iu rfl),fun i r J=>?_,fun i r J=>?_,(fun u hu=>by cases hu),?_⟩
 ·rcases qa i rs.length with U | U
  ·rw[wk U]at J
   exact (h.un i r J).pO jF g h.st.cov hb (hT i r J).1
  rw[xK U]at J;exact (hu r (om J)).pO jF g h.st.cov hb (hY _ r J).1
 ·rcases qa i rs.length with U | U
  ·rw[wk U]at J
   exact (h.ut i r J).pO jF g h.st.cov hb (hT i r J).2
  rw[xK U]at J;exact (ht r (om J)).pO jF g h.st.cov hb (hY _ r J).2
 have e:ng v' vG (rs++ys) []=((ng vS vG rs (v::my ys)).eraseIdx (2*rs.length+2)).set 0 v':=by
  unfold ng;rw[show my (rs++ys)=my rs++my ys by unfold my;rw[Fa]];show _=v'::(vG::(my rs++v::my ys).eraseIdx (2*rs.length))
  rw[List.eraseIdx_append_of_length_le (by rw[oI];omega),oI,Nat.sub_self,oV];rfl
 have hE:Qc ((ng vS vG rs (v::my ys)).eraseIdx (2*rs.length+2)):=by
  intro i j u u' a1 hi hj b R;rw[List.getElem?_eraseIdx]at hi hj;split at hi<;>split at hj<;>exact h.dif _ _ u u' iu hi hj b R
 rw[e];refine hE.set fun i u hi I b R e2=>?_
 rw[List.getElem?_eraseIdx]at I;obtain⟨j,hj,I⟩:∃j,j≠0/\(ng vS vG rs (v::my ys))[j]?=some u:=by
  split at I
  ·exact⟨i,hi,I⟩
  exact⟨i+1,iu,I⟩
 rcases hb with hb | hb
 ·rw[hb]at e2;exact o j u hj I b R e2
 rw[hb]at e2;injection e2 with e2
 have:=h.fam.lim b (h.cov u (om I) b R);omega
theorem pC.Sx {v':Value} {ys:List (nB Gl)} (h:pC n1 F w vS vG rs gs ps) (hy:∀y∈ys,SD (kK F w) y)
  (own:w'.ownsRow n1 237 1 v' (gs++ys).length ((gs++ys).flatMap E_)) (g:w.grownBy w' vG.ownBlock) (hb:v'.ownBlock=vG.ownBlock\/v'.ownBlock=some w.heap.size):pC n1 (iD F v') w' vS v' rs (gs++ys) ps:=by
 have j:∀i u,i≠1->(ng vS vG rs ps)[i]?=some u->∀b,u.ownBlock=some b->vG.ownBlock≠some b:=fun i u U o b hb=>by
  exact fun e=>h.dif 1 i vG u iu rfl o b e hb
 have hT:∀(i:Nat) (r:SR),rs[i]?=some r->(∀b,r.st.unl.val.ownBlock=some b->vG.ownBlock≠some b)/\(∀b,r.st.unt.val.ownBlock=some b->vG.ownBlock≠some b):=fun i r I=>by
  have h1:=(rq.1 I).1;have h2:=qq I;exact⟨j (2*i+2) _ (by omega) (by show (my rs++_)[2*i]?=_;rw[wk (by rw[oI];omega)];exact h2.1),
   j (2*i+1+2) _ (by omega) (by show (my rs++_)[2*i+1]?=_;rw[wk (by rw[oI];omega)];exact h2.2)⟩
 refine⟨h.fam.add g.size fun b e=>(own.lt b e).2,h.st.pO sT g h.go.cov hb (j 0 vS iu rfl),h.go.grow vp hy own g hb,fun i r I=>(h.un i r I).pO jF g h.go.cov hb (hT i r I).1,fun i r I=>(h.ut i r I).pO jF g h.go.cov hb (hT i r I).2,fun u hu b hb=>lF (h.pc u hu b hb),?_⟩;have e:ng vS v' rs ps=(ng vS vG rs ps).set 1 v':=rfl;rw[e];refine h.dif.set fun i u U o b J R=>?_
 rcases hb with hb | hb
 ·rw[hb]at R;exact j i u U o b J R
 rw[hb]at R;injection R with R
 have:=h.fam.lim b (h.cov u (om o) b J);omega
end
end
end Go.Proofs.YtnigblndonocfaaGreatDoor
