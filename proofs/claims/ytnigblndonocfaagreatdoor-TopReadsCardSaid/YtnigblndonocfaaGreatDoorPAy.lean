/- A part of the proof. -/
import Derived.Test.YtnigblndonocfaaGreatDoorPAv
set_option linter.unusedVariables false
set_option linter.unusedSimpArgs false
namespace Go.Proofs.YtnigblndonocfaaGreatDoor
set_option maxRecDepth 100000
set_option maxHeartbeats 1600000
open Go.RowKit Go.BigFrame
section
theorem te {α β:Type} (f:α->List β):∀(l:List α) (k:Nat) (y y':α),l[k]?=some y->f y'=f y->(l.set k y').flatMap f=l.flatMap f
 |[],k,y,y',h,_=>by simp at h
 |a::l,0,y,y',h,he=>by
  simp at h;subst h;rw[oB,pZ,pZ,he]
 |a::l,k+1,y,y',h,he=>by
  rw[oq,pZ,pZ,te f l k y y' (by simpa using h) he]
theorem wH {α β:Type} (f:α->β):∀(l:List α) (k:Nat) (y y':α),l[k]?=some y->f y'=f y->(l.set k y').map f=l.map f
 |[],k,y,y',h,_=>by simp at h
 |a::l,0,y,y',h,he=>by
  simp at h;subst h;rw[oB,mJ,mJ,he]
 |a::l,k+1,y,y',h,he=>by
  rw[oq,mJ,mJ,wH f l k y y' (by simpa using h) he]
def ma.goto (t:ma) (z:Int):ma:=⟨t.cond,z,t.res⟩
def AE (l:nB ma) (k:Nat) (z:Int):nB ma:=⟨l.A,l.c,l.l.modify k (fun t=>t.goto z)⟩
def StT.vf:StT->Nat->Int->StT | .mk n l e A c a u v,k,z=>.mk n l e A c a (AE u k z) v
def StT.uE:StT->Nat->Int->StT | .mk n l e A c a u v,k,z=>.mk n l e A c a u (AE v k z)
def SR.vf (r:SR) (k:Nat) (z:Int):SR:=⟨r.st.vf k z,r.ug,r.vg⟩
def SR.uE (r:SR) (k:Nat) (z:Int):SR:=⟨r.st.uE k z,r.ug,r.vg⟩
theorem Hx (l:nB ma) (k:Nat) (z:Int):(AE l k z).val=l.val:=by unfold AE nB.val;simp
theorem qG (x:StT) (k:Nat) (z:Int):(x.vf k z).name=x.name/\(x.vf k z).locals=x.locals/\(x.vf k z).eqs=x.eqs/\(x.vf k z).ad=x.ad/\(x.vf k z).cap=x.cap/\(x.vf k z).autos=x.autos/\(x.vf k z).unl=AE x.unl k z/\(x.vf k z).unt=x.unt:=by
 cases x;exact⟨rfl,rfl,rfl,rfl,rfl,rfl,rfl,rfl⟩
theorem qN (x:StT) (k:Nat) (z:Int):(x.uE k z).name=x.name/\(x.uE k z).locals=x.locals/\(x.uE k z).eqs=x.eqs/\(x.uE k z).ad=x.ad/\(x.uE k z).cap=x.cap/\(x.uE k z).autos=x.autos/\(x.uE k z).unl=x.unl/\(x.uE k z).unt=AE x.unt k z:=by
 cases x;exact⟨rfl,rfl,rfl,rfl,rfl,rfl,rfl,rfl⟩
theorem Lg (r:SR) (k:Nat) (z:Int):sN (r.vf k z)=sN r:=by
 obtain⟨h1,h2,U,R,J,I,o,j⟩:=qG r.st k z;unfold sN I6 SR.vf;simp only[h1,h2,U,R,J,I,o,j,AE,List.length_modify]
theorem Lc (r:SR) (k:Nat) (z:Int):sN (r.uE k z)=sN r:=by
 obtain⟨h1,h2,U,R,J,I,o,j⟩:=qN r.st k z;unfold sN I6 SR.uE;simp only[h1,h2,U,R,J,I,o,j,AE,List.length_modify]
theorem NZ (r:SR) (k:Nat) (z:Int):(r.vf k z).st.unl.val=r.st.unl.val/\(r.vf k z).st.unt.val=r.st.unt.val:=by
 obtain⟨h1,h2,U,R,J,I,o,j⟩:=qG r.st k z;unfold SR.vf;simp only[o,j,Hx,and_self]
theorem MD (r:SR) (k:Nat) (z:Int):(r.uE k z).st.unl.val=r.st.unl.val/\(r.uE k z).st.unt.val=r.st.unt.val:=by
 obtain⟨h1,h2,U,R,J,I,o,j⟩:=qN r.st k z;unfold SR.uE;simp only[o,j,Hx,and_self]
theorem QT {W:World} {r:SR} (h:Mc W r) (k:Nat) (z:Int):Mc W (r.vf k z):=by
 obtain⟨U,R,J,I,o,j,h7,h8⟩:=qG r.st k z;exact⟨by show (r.st.vf k z).name.size<=_;rw[U];exact h.nm,by show ir 3 jG W (r.st.vf k z).locals;rw[R];exact h.lo,by show ir 7 (xv True) W (r.st.vf k z).eqs;rw[J];exact h.eq,by show ir 1 (xM True) W ⟨(r.st.vf k z).ad,(r.st.vf k z).cap,(r.st.vf k z).autos⟩;rw[I,o,j];exact h.au⟩
theorem Q7 {W:World} {r:SR} (h:Mc W r) (k:Nat) (z:Int):Mc W (r.uE k z):=by
 obtain⟨U,R,J,I,o,j,h7,h8⟩:=qN r.st k z;exact⟨by show (r.st.uE k z).name.size<=_;rw[U];exact h.nm,by show ir 3 jG W (r.st.uE k z).locals;rw[R];exact h.lo,by show ir 7 (xv True) W (r.st.uE k z).eqs;rw[J];exact h.eq,by show ir 1 (xM True) W ⟨(r.st.uE k z).ad,(r.st.uE k z).cap,(r.st.uE k z).autos⟩;rw[I,o,j];exact h.au⟩
theorem Hv {l:nB ma} {k:Nat} {t:ma} (h:l.l[k]?=some t) (z:Int):(AE l k z).l=l.l.set k (t.goto z):=by
 show l.l.modify k _=_
 apply List.ext_getElem?;intro i;rw[List.getElem?_modify,I'];by_cases e:k=i
 ·subst e
  have:=(rq.1 h).1;rw[h];simp[this]
 simp[e]
theorem An:∀(l:List ma) (g:List Gl) (k:Nat) (z:Int),yv (l.modify k (fun t=>t.goto z)) g=yv l g
 |[],g,k,z=>by simp
 |t::l,[],k,z=>by
  cases k<;>simp[yv]
 |t::l,x::g,0,z=>rfl
 |t::l,x::g,k+1,z=>by
  have ih:=An l g k z;show _::yv (l.modify k _) g=_::yv l g
  rw[ih]
theorem QZ (r:SR) (k:Nat) (z:Int):(r.vf k z).sn=r.sn:=by
 obtain⟨U,R,J,h4,h5,I,o,j⟩:=qG r.st k z;unfold SR.sn SR.vf;simp only[U,R,J,I,o,j,AE,An]
theorem Rg (r:SR) (k:Nat) (z:Int):(r.uE k z).sn=r.sn:=by
 obtain⟨U,R,J,h4,h5,I,o,j⟩:=qN r.st k z;unfold SR.sn SR.uE;simp only[U,R,J,I,o,j,AE,An]
theorem sf (y:ma):(kx y).length=8:=rfl
theorem Dd (t:ma) (z:Int):(kx t).set 6 (.int .i64 z)=kx (t.goto z):=rfl
theorem Kg {W:World} {t:ma} (h:vo W t) (z:Int):vo W (t.goto z):=⟨h.co,h.tb,h.sz⟩
section
variable {n1 q:Nat} {F:Nat->Bool} {w w':World} {vS vG v:Value} {rs:List SR} {gs:List (nB Gl)} {ps:List Value}
theorem pC.AH (h:pC n1 F w vS vG rs gs ps) {i j:Nat} {v v':Value} (hij:i≠j) (hi:(my rs)[i]?=some v) (hj:(my rs)[j]?=some v') {b:Nat} (hb:v.ownBlock=some b):v'.ownBlock≠some b:=by
 have e:∀k u,(my rs)[k]?=some u->(ng vS vG rs ps)[k+2]?=some u:=fun k u o=>by
  show (my rs++ps)[k]?=_
  rw[wk (rq.1 o).1];exact o
 exact h.dif (i+2) (j+2) v v' iu (e i v hi) (e j v' hj) b hb
theorem pC.Qo (h:pC n1 F w vS vG rs gs ps) {i:Nat} {v:Value} (hi:(my rs)[i]?=some v) {b:Nat} (hb:v.ownBlock=some b):vS.ownBlock≠some b/\vG.ownBlock≠some b:=by
 have e:(ng vS vG rs ps)[i+2]?=some v:=by
  show (my rs++ps)[i]?=_
  rw[wk (rq.1 hi).1];exact hi
 exact⟨h.dif (i+2) 0 v vS iu e rfl b hb,h.dif (i+2) 1 v vG iu e rfl b hb⟩
theorem JJ {j:Nat} {r r':SR} (hr:rs[j]?=some r) (h1:r'.st.unl.val=r.st.unl.val) (h2:r'.st.unt.val=r.st.unt.val):my (rs.set j r')=my rs:=
 te _ rs j r r' hr (by rw[h1,h2])
theorem pC.jx (h:pC n1 F w vS vG rs gs ps) {j g i:Nat} {r r':SR} {x:Value} (hr:rs[j]?=some r) (hF:F g=true) (h1:r'.st.unl.val=r.st.unl.val) (h2:r'.st.unt.val=r.st.unt.val) (hc:sN r'=sN r) (hok:∀W,Mc W r->Mc W r')
  (hS:vS.ownBlock≠some g) (hG:vG.ownBlock≠some g)
  (hu:pP n1 223 8 kx vo F (w.setCell ⟨g,i,none⟩ x) r'.st.unl.val r'.st.unl.l) (hv:pP n1 223 8 kx vo F (w.setCell ⟨g,i,none⟩ x) r'.st.unt.val r'.st.unt.l)
  (hne:∀(i:Nat) (r0:SR),i≠j->rs[i]?=some r0->r0.st.unl.val.ownBlock≠some g/\r0.st.unt.val.ownBlock≠some g):pC n1 F (w.setCell ⟨g,i,none⟩ x) vS vG (rs.set j r') gs ps:=by
 have R:=(rq.1 hr).1;have I:=h.st.lW sT hF hS i x;refine⟨h.fam.after (lI (jc ..).symm),⟨by rw[Gh,te _ rs j r r' hr hc];exact I.own,I.cov,fun y J=>?_⟩,h.go.lW vp hF hG i x,fun k r0 o=>?_,fun k r0 o=>?_,h.pc,?_⟩
 ·rcases Lj J with J | J
  ·exact I.inn y J
  subst J;exact hok _ (I.inn r (om hr))
 ·rw[I']at o
  split at o
  ·try rw[iG R]at o
   injection o with o;subst o;exact hu
  exact (h.un k r0 o).lW jF hF (hne k r0 iu o).1 i x
 ·rw[I']at o
  split at o
  ·try rw[iG R]at o
   injection o with o;subst o;exact hv
  exact (h.ut k r0 o).lW jF hF (hne k r0 iu o).2 i x
 unfold ng;rw[JJ hr h1 h2];exact h.dif
theorem pC.Rw (h:pC n1 F w vS vG rs gs ps) {j k g:Nat} {r:SR} {t:ma} (hr:rs[j]?=some r) (hA:r.st.unl.A=some ⟨g,0,none⟩) (hk:r.st.unl.l[k]?=some t) (z:Int):pC n1 F (w.setCell ⟨g,k*8+6,none⟩ (.int .i64 z)) vS vG (rs.set j (r.vf k z)) gs ps:=by
 have o:=qq hr;have I:r.st.unl.val.ownBlock=some g:=by unfold nB.val;rw[hA];rfl
 have R:=(h.un j r hr).cov g I;obtain⟨e1,e2⟩:=NZ r k z;have p:=qG r.st k z;obtain⟨hS,hG⟩:=h.Qo o.1 I;refine h.jx hr R e1 e2 (Lg r k z) (fun W hW=>QT hW k z) hS hG ?_ ?_ fun i r0 hi J=>?_
 ·rw[e1]
  show pP _ _ _ _ _ _ _ _ (r.st.vf k z).unl.l
  rw[p.2.2.2.2.2.2.1,Hv hk];exact (h.un j r hr).Ok jF sf (by unfold nB.val;rw[hA]) hk iI (Dd t z) (Kg ((h.un j r hr).inn t (om hk)) z)
 ·rw[e2]
  show pP _ _ _ _ _ _ _ _ (r.st.vf k z).unt.l
  rw[p.2.2.2.2.2.2.2];exact (h.ut j r hr).lW jF R (h.AH iu o.1 o.2 I) _ _
 have U:=qq J;exact⟨h.AH iu o.1 U.1 I,h.AH iu o.1 U.2 I⟩
theorem pC.Rx (h:pC n1 F w vS vG rs gs ps) {j k g:Nat} {r:SR} {t:ma} (hr:rs[j]?=some r) (hA:r.st.unt.A=some ⟨g,0,none⟩) (hk:r.st.unt.l[k]?=some t) (z:Int):pC n1 F (w.setCell ⟨g,k*8+6,none⟩ (.int .i64 z)) vS vG (rs.set j (r.uE k z)) gs ps:=by
 have o:=qq hr;have I:r.st.unt.val.ownBlock=some g:=by unfold nB.val;rw[hA];rfl
 have R:=(h.ut j r hr).cov g I;obtain⟨e1,e2⟩:=MD r k z;have p:=qN r.st k z;obtain⟨hS,hG⟩:=h.Qo o.2 I;refine h.jx hr R e1 e2 (Lc r k z) (fun W hW=>Q7 hW k z) hS hG ?_ ?_ fun i r0 hi J=>?_
 ·rw[e1]
  show pP _ _ _ _ _ _ _ _ (r.st.uE k z).unl.l
  rw[p.2.2.2.2.2.2.1];exact (h.un j r hr).lW jF R (h.AH iu o.2 o.1 I) _ _
 ·rw[e2]
  show pP _ _ _ _ _ _ _ _ (r.st.uE k z).unt.l
  rw[p.2.2.2.2.2.2.2,Hv hk];exact (h.ut j r hr).Ok jF sf (by unfold nB.val;rw[hA]) hk iI (Dd t z) (Kg ((h.ut j r hr).inn t (om hk)) z)
 have U:=qq J;exact⟨h.AH iu o.2 U.1 I,h.AH iu o.2 U.2 I⟩
theorem sa.Df {S:Prop} {W:World} {b:Nat}:∀{l:List AuT} {o:Nat},(∀(i:Nat) y,l[i]?=some y->xM S W b (o+i*1) y)->sa S W b o l
 |[],o,_=>by rw[sa];trivial
 |y::l,o,h=>by
  rw[sa];have h0:=h 0 y rfl;rw[zH,xP]at h0;refine⟨h0.1,h0.2,sa.Df fun i z hz=>?_⟩;have:=h (i+1) z (by simpa using hz);rwa [show o+(i+1)*1=o+1+i*1 by omega]at this
theorem sd.Df {W:World} {b:Nat}:∀{l:List SR} {o:Nat},(∀(i:Nat) y,l[i]?=some y->Bp W b (o+i*6) y.st/\tY True W y.st)->sd True W b o (l.map SR.st)
 |[],o,_=>by rw[tW,sd];trivial
 |y::l,o,h=>by
  rw[mJ,sd];have h0:=h 0 y rfl;rw[zH,xP]at h0;refine⟨h0.1,h0.2,sd.Df fun i z hz=>?_⟩;have:=h (i+1) z (by simpa using hz);rwa [show o+(i+1)*6=o+6+i*6 by omega]at this
theorem pC.au {A:Option Addr} {c:Nat} (h:pC n1 F w (.slice A rs.length c) vG rs gs ps) (hl:rs.length<=8) (hu:∀(i:Nat) (r:SR),rs[i]?=some r->r.st.unl.l.length<=4/\r.st.unt.l.length<=4):FC (old n1 w) (.mk A c (rs.map SR.st)):=by
 have hR:=h.st.row sT h.fam.low (fun _=>rfl) iu fun W b o y J I=>Ja J I
 have hS:∀(i:Nat) (r:SR),rs[i]?=some r->tY True (old n1 w) r.st:=fun i r hi=>by
  have a1:=om hi;have R:=sT.sub _ _ _ (sZ w h.fam.low) (h.st.inn r a1);have hP:∀W b o (y:ma),vo W y->(∀j u,(kx y)[j]?=some u->W.cell? ⟨b,o+j,none⟩=some u)->Eo True W b o y:=fun W b o y J I=>
   ⟨fun x hx=>Int.le_trans (J.tb x hx) iI,fun _=>jW J.sz iI,⟨I 0 _ rfl,I 1 _ rfl,I 2 _ rfl,I 3 _ rfl,I 4 _ rfl,I 5 _ rfl⟩,I 6 _ rfl,I 7 _ rfl,J.co⟩
  have a7:=(h.un i r hi).row jF h.fam.low sf (by have:=(hu i r hi).1;omega) hP;have a6:=(h.ut i r hi).row jF h.fam.low sf (by have:=(hu i r hi).2;omega) hP;obtain⟨st,ug,vg⟩:=r;cases st with
  |mk n l e A' c' a u v=>
  rw[tY];refine⟨jW R.nm iI,R.lo,R.eq,a7,a6,R.au.le,R.au.cap,R.au.len,?_⟩;rcases R.au.cells with U | ⟨b,p,U,hlt,hc⟩
  ·exact .inl U
  exact .inr ⟨b,p,U,hlt,sa.Df hc⟩
 unfold FC;rw[zS];refine⟨by rw[pE];exact hR.le,hR.cap,by rw[pE];exact hR.len,?_⟩;rcases hR.cells with U | ⟨b,p,U,hlt,hc⟩
 ·exact .inl (by show rs.map SR.st=[];rw[show rs=[] from U];rfl)
 exact .inr ⟨b,p,U,hlt,sd.Df fun i y J=>⟨hc i y J,hS i y J⟩⟩
end
end
section
open Go.Proofs.Tryz
def jb (rs:List SR):List (nB Gl):=rs.flatMap fun r=>[r.ug,r.vg]
theorem tU:∀{rs:List SR} {i:Nat} {r:SR},rs[i]?=some r->(jb rs)[2*i]?=some r.ug/\(jb rs)[2*i+1]?=some r.vg
 |[],i,r,h=>by simp at h
 |a::rs,0,r,h=>by
  simp at h;subst h;exact⟨rfl,rfl⟩
 |a::rs,i+1,r,h=>by
  have ih:=tU (rs:=rs) (i:=i) (r:=r) (by simpa using h);show ((_::_::jb rs):List (nB Gl))[2*(i+1)]?=_/\((_::_::jb rs):List (nB Gl))[2*(i+1)+1]?=_
  rw[show 2*(i+1)=2*i+1+1 by omega];exact ih
theorem uj (rs:List SR):(jb rs).length=2*rs.length:=by
 induction rs with
 |nil=>rfl
 |cons a rs ih=>show (jb rs).length+1+1=_;rw[ih,py];omega
theorem Ha (rs:List SR) (r:SR):jb (rs++[r])=jb rs++[r.ug,r.vg]:=by
 unfold jb;rw[Fa];rfl
theorem zK {rs:List SR} {j:Nat} {r r':SR} (hr:rs[j]?=some r) (h1:r'.ug=r.ug) (h2:r'.vg=r.vg):jb (rs.set j r')=jb rs:=
 te _ rs j r r' hr (by rw[h1,h2])
def tq (rs:List SR):Prop:=∀(i:Nat) (r:SR),rs[i]?=some r->r.st.unl.l.length=r.ug.l.length/\r.st.unt.l.length=r.vg.l.length/\r.st.unl.l.length<=4/\r.st.unt.l.length<=4
theorem tq.app {rs:List SR} {r:SR} (h:tq rs) (h1:r.st.unl.l.length=r.ug.l.length) (h2:r.st.unt.l.length=r.vg.l.length) (h3:r.st.unl.l.length<=4) (h4:r.st.unt.l.length<=4):tq (rs++[r]):=fun i r' hi=>by
 rcases qa i rs.length with h5 | h5
 ·rw[wk h5]at hi;exact h i r' hi
 rw[xK h5]at hi;have e:=om hi;simp only[la]at e;subst e;exact⟨h1,h2,h3,h4⟩
theorem tq.set {rs:List SR} {j:Nat} {r r':SR} (h:tq rs) (hr:rs[j]?=some r) (h1:r'.st.unl.l.length=r.st.unl.l.length) (h2:r'.st.unt.l.length=r.st.unt.l.length) (h3:r'.ug=r.ug) (h4:r'.vg=r.vg):tq (rs.set j r'):=fun i r0 hi=>by
 rw[I']at hi;split at hi
 ·split at hi
  ·injection hi with hi
   subst hi;obtain⟨k1,k2,k3,k4⟩:=h j r hr;rw[h1,h2,h3,h4];exact⟨k1,k2,k3,k4⟩
  cases hi
 exact h i r0 hi
theorem JU (r:SR) (k:Nat) (z:Int):(r.vf k z).st.unl.l.length=r.st.unl.l.length/\(r.vf k z).st.unt.l.length=r.st.unt.l.length:=by
 obtain⟨h1,h2,U,R,J,I,o,j⟩:=qG r.st k z;unfold SR.vf;simp only[o,j,AE,List.length_modify,and_self]
theorem J4 (r:SR) (k:Nat) (z:Int):(r.uE k z).st.unl.l.length=r.st.unl.l.length/\(r.uE k z).st.unt.l.length=r.st.unt.l.length:=by
 obtain⟨h1,h2,U,R,J,I,o,j⟩:=qN r.st k z;unfold SR.uE;simp only[o,j,AE,List.length_modify,and_self]
def uP (names:List ByteArray) (rs:List SR) (i k:Nat):Prop:=∀(j:Nat) (r:SR) (k':Nat) (t:ma) (g:Gl),rs[j]?=some r ->
 ((2*j<i\/2*j=i/\k'<k)->r.st.unl.l[k']?=some t->r.ug.l[k']?=some g->∃z:Nat,vM g.1 names 0=some z/\t.dst=(z:Int)) /\
 ((2*j+1<i\/2*j+1=i/\k'<k)->r.st.unt.l[k']?=some t->r.vg.l[k']?=some g->∃z:Nat,vM g.1 names 0=some z/\t.dst=(z:Int))
theorem uP.start (names:List ByteArray) (rs:List SR):uP names rs 0 0:=fun j r k' t g _=>⟨fun h=>by omega,fun h=>by omega⟩
theorem uP.next {names:List ByteArray} {rs:List SR} {i k:Nat} (h:uP names rs i k) (hk:∀g,(jb rs)[i]?=some g->g.l.length<=k):uP names rs (i+1) 0:=fun j r k' t g hr=>by
 obtain⟨h1,h2⟩:=h j r k' t g hr;have hg:=tU hr;refine⟨fun hc ht hgk=>h1 ?_ ht hgk,fun hc ht hgk=>h2 ?_ ht hgk⟩
 ·by_cases e:2*j=i
  ·have:=hk r.ug (by rw[<- e];exact hg.1)
   have:=(rq.1 hgk).1;exact .inr ⟨e,iu⟩
  exact .inl iu
 by_cases e:2*j+1=i
 ·have:=hk r.vg (by rw[<- e];exact hg.2)
  have:=(rq.1 hgk).1;exact .inr ⟨e,iu⟩
 exact .inl iu
theorem Ef {l:List ma} {k k':Nat} {t:ma} {z:Int} (h:(l.modify k (fun t=>t.goto z))[k']?=some t):if k=k' then t.dst=z/\∃t0,l[k']?=some t0 else l[k']?=some t:=by
 rw[List.getElem?_modify]at h;split
 ·rename_i e
  cases hl:l[k']? with
  |none=>rw[hl]at h;cases h
  |some t0=>
  rw[hl]at h;simp only[e,if_true,Option.map_eq_map,Option.map_some,Option.some.injEq]at h;subst h;exact⟨rfl,t0,rfl⟩
 rename_i e
 simpa[e] using h
theorem uP.Rw {names:List ByteArray} {rs:List SR} {j k:Nat} {r:SR} {g:Gl} {z:Nat} (h:uP names rs (2*j) k) (hr:rs[j]?=some r) (hg:r.ug.l[k]?=some g) (hz:vM g.1 names 0=some z):uP names (rs.set j (r.vf k z)) (2*j) (k+1):=fun i r0 k' t g' hi=>by
 rw[I']at hi;split at hi
 ·rename_i e
  subst e;split at hi
  ·injection hi with hi
   subst hi;obtain⟨h1,h2,h3,h4,h5,h6,h7,h8⟩:=qG r.st k (z:Int);refine⟨fun hc ht hg'=>?_,fun hc=>by omega⟩;have ht':(r.st.unl.l.modify k (fun t=>t.goto z))[k']?=some t:=by
    have I:(r.vf k z).st.unl.l[k']?=some t:=ht;unfold SR.vf at I;simp only[h7]at I;exact I
   have I:=Ef ht';have o:r.ug.l[k']?=some g':=hg';split at I
   ·rename_i e
    subst e;rw[hg]at o;injection o with o
    subst o;exact⟨z,hz,I.1⟩
   exact (h j r k' t g' hr).1 iu I o
  cases hi
 rename_i e
 obtain⟨h1,h2⟩:=h i r0 k' t g' hi;exact⟨fun hc=>h1 iu,fun hc=>h2 iu⟩
theorem uP.Rx {names:List ByteArray} {rs:List SR} {j k:Nat} {r:SR} {g:Gl} {z:Nat} (h:uP names rs (2*j+1) k) (hr:rs[j]?=some r) (hg:r.vg.l[k]?=some g) (hz:vM g.1 names 0=some z):uP names (rs.set j (r.uE k z)) (2*j+1) (k+1):=fun i r0 k' t g' hi=>by
 rw[I']at hi;split at hi
 ·rename_i e
  subst e;split at hi
  ·injection hi with hi
   subst hi;obtain⟨h1,h2,h3,h4,h5,h6,h7,h8⟩:=qN r.st k (z:Int);refine⟨fun hc ht hg'=>?_,fun hc ht hg'=>?_⟩
   ·have h9:r.st.unl.l[k']?=some t:=by
     have h9:(r.uE k z).st.unl.l[k']?=some t:=ht;unfold SR.uE at h9;simp only[h7]at h9;exact h9
    exact (h j r k' t g' hr).1 iu h9 hg'
   have I:(r.st.unt.l.modify k (fun t=>t.goto z))[k']?=some t:=by
    have h9:(r.uE k z).st.unt.l[k']?=some t:=ht;unfold SR.uE at h9;simp only[h8]at h9;exact h9
   have h9:=Ef I;have o:r.vg.l[k']?=some g':=hg';split at h9
   ·rename_i e
    subst e;rw[hg]at o;injection o with o
    subst o;exact⟨z,hz,h9.1⟩
   exact (h j r k' t g' hr).2 iu h9 o
  cases hi
 rename_i e
 obtain⟨h1,h2⟩:=h i r0 k' t g' hi;exact⟨fun hc=>h1 iu,fun hc=>h2 iu⟩
theorem EV {names:List ByteArray}:∀{l:List ma} {g:List Gl},l.length=g.length->(∀(k:Nat) (t:ma) (x:Gl),l[k]?=some t->g[k]?=some x->∃z:Nat,vM x.1 names 0=some z/\t.dst=(z:Int))->(yv l g).mapM (yp names)=some (l.map ma.er)
 |[],[],_,_=>rfl
 |t::l,x::g,hl,h=>by
  obtain⟨z,hz,hd⟩:=h 0 t x rfl rfl;have ih:=EV (names:=names) (l:=l) (g:=g) (by simpa using hl) fun k t' x' ht hx=>h (k+1) t' x' (by simpa using ht) (by simpa using hx)
  show ((wo.mk t.cond.er t.res x.1)::yv l g).mapM (yp names)=_
  rw[Cx,ih];unfold yp;rw[hz];show some ((⟨t.cond.er,(z:Int),t.res⟩:Qb)::l.map ma.er)=some (List.map ma.er (t::l))
  rw[<- hd];rfl
theorem Fy {names:List ByteArray}:∀{l:List ma} {g:List Gl} {k:Nat} {x:Gl},l.length=g.length->g[k]?=some x->vM x.1 names 0=none->(yv l g).mapM (yp names)=none
 |[],[],k,x,_,h,_=>by simp at h
 |t::l,y::g,0,x,hl,h,hx=>by
  simp at h;subst h;show ((wo.mk t.cond.er t.res y.1)::yv l g).mapM (yp names)=_
  rw[Cx];unfold yp;rw[hx];rfl
 |t::l,y::g,k+1,x,hl,h,hx=>by
  have ih:=Fy (names:=names) (l:=l) (g:=g) (k:=k) (x:=x) (by simpa using hl) (by simpa using h) hx;show ((wo.mk t.cond.er t.res y.1)::yv l g).mapM (yp names)=_
  rw[Cx,ih];cases yp names (wo.mk t.cond.er t.res y.1)<;>rfl
theorem F_ {α β:Type} {f:α->Option β} {g:α->β}:∀{l:List α},(∀x∈l,f x=some (g x))->l.mapM f=some (l.map g)
 |[],_=>rfl
 |a::l,h=>by
  rw[Cx,h a (nG ..),F_ fun x hx=>h x (qj _ hx)];rfl
theorem EC {α β:Type} {f:α->Option β}:∀{l:List α} {a:α},a∈l->f a=none->l.mapM f=none
 |[],a,h,_=>by cases h
 |b::l,a,h,hf=>by
  rw[Cx];rcases uW.1 h with h | h
  ·subst h;rw[hf];rfl
  rw[EC h hf];cases f b<;>rfl
theorem Sn (x:StT):x.er=.mk x.name (x.locals.l.map iO.er) (x.eqs.l.map oX.er) (AuT.kv x.autos) (x.unl.l.map ma.er) (x.unt.l.map ma.er):=by
 cases x;rw[StT.er];rfl
theorem uP.all {names:List ByteArray} {rs:List SR} {i:Nat} (h:uP names rs i 0) (hi:2*rs.length<=i) (hl:tq rs):(rs.map SR.sn).mapM (wW names)=some (StT.kv (rs.map SR.st)):=by
 rw[Rs,xZ];have R:∀r∈rs,wW names r.sn=some r.st.er:=fun r hr=>by
  obtain⟨j,o⟩:=List.mem_iff_getElem?.1 hr;have a1:=(rq.1 o).1;obtain⟨k1,U,k3,k4⟩:=hl j r o;have hu:=EV (names:=names) k1 fun k t x J I=>(h j r k t x o).1 (by omega) J I
  have hv:=EV (names:=names) U fun k t x J I=>(h j r k t x o).2 (by omega) J I
  unfold wW SR.sn;simp only[];rw[hu,hv,Sn,QP];rfl
 have:(rs.map SR.sn).mapM (wW names)=rs.mapM (fun r=>wW names r.sn):=by
  clear h hi hl R;induction rs with
  |nil=>rfl
  |cons a rs ih=>rw[mJ,Cx,Cx,ih]
 rw[this];exact F_ (g:=fun (r:SR)=>r.st.er) R
theorem L5 {names:List ByteArray} {rs:List SR} {i k:Nat} {g:nB Gl} {x:Gl} (hl:tq rs) (hg:(jb rs)[i]?=some g) (hx:g.l[k]?=some x) (hn:vM x.1 names 0=none):(rs.map SR.sn).mapM (wW names)=none:=by
 have hi:i<2*rs.length:=by rw[<- uj];exact (rq.1 hg).1
 have J:i / 2<rs.length:=iu;have I:=qn J;obtain⟨U,R,k3,k4⟩:=hl _ _ I;have j:=tU I;refine EC (a:=(rs[i / 2]).sn) (yQ.2 ⟨_,Fq J,rfl⟩) ?_;unfold wW SR.sn;simp only[];rcases Nat.mod_two_eq_zero_or_one i with e | e
 ·have o:2*(i / 2)=i:=iu
  rw[o,hg]at j;have:=j.1;injection this with this
  subst this;rw[Fy U hx hn];rfl
 have o:2*(i / 2)+1=i:=iu;rw[o,hg]at j;have:=j.2;injection this with this
 subst this;rw[Fy R hx hn];cases (yv (rs[i / 2]).st.unl.l (rs[i / 2]).ug.l).mapM (yp names)<;>rfl
theorem N0 {rs:List SR} {i:Nat} {g:nB Gl} (hl:tq rs) (hg:(jb rs)[i]?=some g):g.l.length<=4:=by
 have hi:i<2*rs.length:=by rw[<- uj];exact (rq.1 hg).1
 have hj:i / 2<rs.length:=iu;have I:=qn hj;obtain⟨k1,U,R,J⟩:=hl _ _ I;have j:=tU I;rcases Nat.mod_two_eq_zero_or_one i with e | e
 ·have o:2*(i / 2)=i:=iu
  rw[o,hg]at j;have:=j.1;injection this with this
  rw[this,<- k1];exact R
 have o:2*(i / 2)+1=i:=iu;rw[o,hg]at j;have:=j.2;injection this with this
 rw[this,<- U];exact J
theorem Nh {w:World} {n1 sz:Nat} {T:TypeId} {y:nB ma} {xs:List Value} (h:w.ownsRow n1 T sz y.val y.l.length xs) (h0:0<y.l.length):∃g,y.A=some ⟨g,0,none⟩:=by
 rcases h.2 with⟨_,h1⟩ | ⟨g,cap,cur,hv,_⟩
 ·omega
 unfold nB.val at hv;injection hv with e1
 exact⟨g,e1⟩
theorem Gq {w:World} {n1:Nat} {T:TypeId} {y:nB ma} {k g:Nat} {t:ma} (h:w.ownsRow n1 T 8 y.val y.l.length (y.l.flatMap kx)) (hA:y.A=some ⟨g,0,none⟩) (hk:y.l[k]?=some t):w.cell? ⟨g,k*8+6,none⟩=some (.int .i64 t.dst):=by
 have o:(y.l.flatMap kx)[k*8+6]?=some (.int .i64 t.dst):=by
  have j:∀(l:List ma) (i:Nat),l[i]?=some t->(l.flatMap kx)[i*8+6]?=some (.int .i64 t.dst):=by
   intro l;induction l with
   |nil=>intro i h;simp at h
   |cons a l ih=>
   intro i h;rw[pZ];cases i with
   |zero=>
    simp at h;subst h;rfl
   |succ i=>
   rw[xK (by rw[sf];omega),sf,show (i+1)*8+6-8=i*8+6 by omega];exact ih i (by simpa using h)
  exact j _ _ hk
 unfold nB.val at h;rw[hA]at h;have:=h.cells (g:=g) rfl _ _ o;rwa [yb,t_]at this
def su (s:ByteArray) (r:SR):Bool:=r.st.name.toList==s.toList
theorem Kw (s:ByteArray):∀(l:List SR) (k:Nat),FW (su s) l k=match vM s (l.map fun r=>r.st.name) k with | some j=>(j:Int) | none=>-1
 |[],k=>rfl
 |u::l,k=>by
  rw[FW,mJ,vM];by_cases h:u.st.name=s
  ·rw[iG h,iG (by unfold su;rw[h];exact beq_self_eq_true _)]
  rw[iV h,iV (by unfold su;simp only[beq_iff_eq];exact fun e=>h (toList_inj e)),Kw s l (k+1)]
theorem Kr {s:ByteArray}:∀{l:List ByteArray} {k j:Nat},vM s l k=some j->k<=j/\j<k+l.length
 |[],k,j,h=>by cases h
 |u::l,k,j,h=>by
  rw[vM]at h;split at h
  ·injection h with h;subst h;rw[py];omega
  have:=Kr h;rw[py];omega
def P6 (W:World) (b o:Nat) (r:SR):Prop:=Bp W b o r.st
theorem N4:tO P6:=fun w w' b o y hb hlt h=>Bp.keep hb hlt h
theorem LG {w0:World} {gs:Nat} {s:ByteArray} (k0:w0.cell? gs=some (.string s)) (l0:Le (gs+1) w0) (nm:ByteArray) (v1 v2 v3 v4 v5:Value) (w:World) (hw:ik w0 w) :
  Calls prog 155 #[.agg #[nm,v1,v2,v3,v4,v5],.pointer (some gs)] w fun e w'=>e=.returned (.bool (nm.toList==s.toList))/\∃y,w'=w.more y:=by
 have J:=(hw.below.cell (p:=⟨gs,0,none⟩) l0.le).trans k0;have I:Le (gs+1) w:=⟨jW l0.le hw.below.size⟩;obtain⟨q,j⟩:∃q,(nm.toList==s.toList)=q:=⟨_,rfl⟩;have o:Hid ((nm.toList==s.toList)=q):=j;go_in;go_wp2_with fail;go_ret;exact⟨iK (by first | rfl | rw[o.out]),jP _ _⟩
theorem QY {w0:World} {gs:Nat} {s:ByteArray} (k0:w0.cell? gs=some (.string s)) (l0:Le (gs+1) w0) {nA:Option Addr} {nc:Nat} {nl:List SR} (hnd:ir 6 P6 w0 ⟨nA,nc,nl⟩) (w:World) (hw:ik w0 w) :
  Calls prog 139 #[.slice nA nl.length nc,.func (.func 155) #[] #[.pointer (some gs)]] w fun e w'=>e=.returned (.int .i64 (FW (su s) nl 0))/\∃y,w'=w.more y:=by
 have HF:Hid (∀(nm:ByteArray) (v1 v2 v3 J I:Value),∀U,ik w0 U->Calls prog 155 #[.agg #[nm,v1,v2,v3,J,I],.pointer (some gs)] U fun e w'=>e=.returned (.bool (nm.toList==s.toList))/\∃y,w'=U.more y):=fun nm v1 v2 v3 J I U hU=>LG k0 l0 nm v1 v2 v3 J I U hU
 have a':=iy hnd;have a_:=hnd.len;simp only[]at a_;obtain⟨R,hR⟩:=jt (FW (su s) nl 0);have HV:=iy hR;rw[hR];go_in;go_wp2_with fail;go_loopw [8] (fun i wr=>∃j:Nat,j<=nl.length/\i=.int .i64 (j:Nat)/\Hid ((nl.take j).any (su s)=false)/\ik w wr) (fun i _=>nl.length-(intOf i).toNat)
 case atStart=>exact⟨0,iu,rfl,iy (by simp),iR⟩
 case round=>
 obtain⟨j,hj,rfl,HJ,ar⟩:=hrel;have a7:=ij hw ar;by_cases a6:j<nl.length
 ·have a1:(j:Int)<(nl.length:Int):=iu
  obtain⟨b,p,o,rfl,aa,HY,hP⟩:=(a'.below N4 a7.below).part (i:=j) a6;obtain⟨z0,z1,z2,z3,z4,z5⟩:=hP;generalize ah:Value.slice o.st.locals.A o.st.locals.l.length o.st.locals.c=v1 at z1;generalize ag:Value.slice o.st.eqs.A o.st.eqs.l.length o.st.eqs.c=v2 at z2;generalize af:Value.slice o.st.ad o.st.autos.length o.st.cap=v3 at z3;generalize ae:Value.slice o.st.unl.A o.st.unl.l.length o.st.unl.c=J at z4;generalize ab:Value.slice o.st.unt.A o.st.unt.l.length o.st.unt.c=I at z5;have HC:=iy (HF o.st.name v1 v2 v3 J I wr a7);obtain⟨q,hq⟩:=jt (su s o);have HQ:=iy hq;unfold su at hq;rw[hq]at HC;obtain⟨nm,a8⟩:=jt (o.st.name);rw[a8]at HC z0;cases q with
  |true=>
   have HE:Hid (R=(j:Int)):=iy (by rw[<- HV.out];exact (Jk _ 0 HY HJ HQ).trans iu);go_wp2_with fail;refine HC.mono ?_;rintro e w' ⟨rfl,y,rfl⟩;go_wp2_with fail;go_ret;exact⟨by rw[HE.out];rfl,have:=ar;jP _ _⟩
  |false=>
  go_wp2_with fail;refine HC.mono ?_;rintro e w' ⟨rfl,y,rfl⟩;go_wp2_with fail;go_roundw
  case rel=>exact⟨j+1,iu,by go_num,iy (G7 _ HY HJ HQ),have:=ar;iR⟩
  case measure=>simp only[intOf];omega
 have a1:¬((j:Int)<(nl.length:Int)):=iu;have HE:Hid (R=-1):=iy (by rw[<- HV.out];exact BX _ nl 0 (JM _ a6 HJ));go_wp2_with fail;go_ret;exact⟨by rw[HE.out];rfl,have:=ar;jP _ _⟩
end
end Go.Proofs.YtnigblndonocfaaGreatDoor
