/- A part of the proof. -/
import Derived.Test.YtnigblndonocfaaGreatDoorVPg
import Derived.Test.YtnigblndonocfaaGreatDoorSQc
set_option linter.unusedVariables false
set_option linter.unusedSimpArgs false
namespace Go.Proofs.YtnigblndonocfaaGreatDoor
open Go.RowKit Go.BigFrame
section
theorem nE {α β:Type} {f:α->α->Bool} {er:α->β} (h:∀a b,er a=er b->f a b=true):∀{l m:List α},l.map er=m.map er->iU f l m=true:=by
 have o:∀{l m:List α},l.map er=m.map er->kW f l m=true:=by
  intro l;induction l with
  |nil=>intro m _;rw[kW]
  |cons a l ih=>
  intro m j;cases m with
  |nil=>rw[kW]
  |cons b m=>
  rw[mJ,mJ]at j;injection j with h1 h2
  rw[kW,h a b h1,ih h2];rfl
 intro l m j;unfold iU;rw[o j,lp (by have:=nQ List.length j;simpa using this)];rfl
theorem nf {α β:Type} {f g:α->Int} {er:α->β} (h:∀a b,er a=er b->f a=g b):∀{l m:List α},l.map er=m.map er->iw f l=iw g m
 |[],[],_=>rfl
 |[],b::m,hm=>by cases hm
 |a::l,[],hm=>by cases hm
 |a::l,b::m,hm=>by
  rw[mJ,mJ]at hm;injection hm with h1 h2
  rw[iw,iw,h a b h1,nf h h2]
theorem pW {α β:Type} {er:α->β} {l m:List α} (h:l.map er=m.map er):l.length=m.length:=by have:=nQ List.length h;simpa using this
theorem DN (l:List ByteArray):iU kB l l=true:=BV kB l fun x _=>pS x
theorem xC {a b:iO} (h:a.er=b.er):jO a b=true:=by
 obtain⟨n,t,⟨A,c,l⟩⟩:=a;obtain⟨o,j,⟨R,J,I⟩⟩:=b;unfold iO.er at h;injection h with h1 h2 h3
 simp only[]at h1 h2 h3;subst h1;subst h2;subst h3;unfold jO;rw[pS,BV oO l fun x _=>GU x];simp
theorem PO {a b:iW} (h:a.er=b.er):nx a b=true:=by
 obtain⟨n,⟨A,c,l⟩⟩:=a;obtain⟨j,⟨J,I,o⟩⟩:=b;unfold iW.er at h;injection h with h1 h2
 simp only[]at h1 h2;subst h1;subst h2;unfold nx;rw[pS,DN];rfl
theorem Ka {a b:oX} (h:a.er=b.er):mx a b=true:=by
 obtain⟨⟨A,c,l⟩,x⟩:=a;obtain⟨⟨I,o,j⟩,y⟩:=b;unfold oX.er at h;injection h with h1 h2
 simp only[]at h1 h2;subst h1;unfold mx;rw[DN,(wL x y).2 h2];rfl
theorem Km {a b:ma} (h:a.er=b.er):mj a b=true:=by
 obtain⟨x,d,r⟩:=a;obtain⟨y,o,j⟩:=b;unfold ma.er at h;injection h with h1 h2 h3
 simp only[]at h1 h2 h3;subst h2;subst h3;unfold mj;rw[(wL x y).2 h1];simp
mutual
theorem Pj:∀a b:StT,a.er=b.er->mw a b=true
 |.mk n l e A c au u v,.mk n' l' e' A' c' au' u' v',h=>by
  rw[StT.er,StT.er]at h;injection h with h1 h2 h3 h4 h5 h6
  subst h1;rw[mw,pS,nE (fun _ _=>xC) h2,nE (fun _ _=>Ka) h3,nE (fun _ _=>Km) h5,nE (fun _ _=>Km) h6,H7 au au' h4,lp (Da au au' h4)];rfl
theorem Gx:∀a b:List StT,StT.kv a=StT.kv b->sq a b=true
 |[],_,_=>by rw[sq]
 |_::_,[],_=>by rw[sq]
 |a::l,b::m,h=>by
  rw[StT.kv,StT.kv]at h;injection h with h1 h2
  rw[sq,Pj a b h1,Gx l m h2];rfl
theorem KC:∀a b:AuT,a.er=b.er->lE a b=true
 |.mk A c l,.mk A' c' l',h=>by
  rw[AuT.er,AuT.er]at h;injection h with h
  rw[lE,Gx l l' h,lp (by have:=nQ (fun x=>(x.map F5.nm).length) h;simpa[EZ] using this)];rfl
theorem H7:∀a b:List AuT,AuT.kv a=AuT.kv b->sx a b=true
 |[],_,_=>by rw[sx]
 |_::_,[],_=>by rw[sx]
 |a::l,b::m,h=>by
  rw[AuT.kv,AuT.kv]at h;injection h with h1 h2
  rw[sx,KC a b h1,H7 l m h2];rfl
theorem Da:∀a b:List AuT,AuT.kv a=AuT.kv b->a.length=b.length
 |[],[],_=>rfl
 |[],b::m,h=>by rw[AuT.kv,AuT.kv]at h;cases h
 |a::l,[],h=>by rw[AuT.kv,AuT.kv]at h;cases h
 |a::l,b::m,h=>by
  rw[AuT.kv,AuT.kv]at h;injection h with h1 h2
  rw[py,py,Da l m h2]
end
theorem PI {a b:nh} (h:a.er=b.er):nu a b=true:=by
 obtain⟨nn,⟨iA,ic,il⟩,⟨oA,oc,ol⟩,⟨lA,lc,ll⟩,⟨qA,qc,ql⟩,⟨aA,ac,al⟩,⟨sA,sc,sl⟩,⟨aj,ai,nl⟩⟩:=a;obtain⟨a',⟨ah,ag,af⟩,⟨a_,a8,a7⟩,⟨ae,ad,ab⟩,⟨a6,a1,U⟩,⟨ao,an,ak⟩,⟨R,J,I⟩,⟨o,j,aa⟩⟩:=b;unfold nh.er at h;injection h with h1 h2 h3 h4 h5 h6 h7 h8
 simp only[]at h1 h2 h3 h4 h5 h6 h7 h8;subst h1;unfold nu;rw[pS,nE (fun _ _=>xC) h2,nE (fun _ _=>xC) h3,nE (fun _ _=>xC) h4,nE (fun _ _=>Ka) h5,nE (fun a b=>KC a b) h6,nE (fun a b h=>(wL a b).2 h) h7,nE (fun a b h=>(wL a b).2 h) h8];rfl
theorem Kl {p q:Il} (h1:p.enums.l.map iW.er=q.enums.l.map iW.er) (h2:p.nodes.l.map nh.er=q.nodes.l.map nh.er):FQ p q=true:=by
 unfold FQ;rw[nE (fun _ _=>PO) h1,nE (fun _ _=>PI) h2];rfl
section
variable {el el':List iW}
theorem KE (h:el.map iW.er=el'.map iW.er) (t:Int):jV el' t=jV el t:=by
 unfold jV;by_cases J:t=1
 ·rw[iG J,iG J]
 rw[iV J,iV J];by_cases I:t=2
 ·rw[iG I,iG I]
 rw[iV I,iV I];by_cases o:3<=t
 ·rw[iG o,iG o]
  have j:(el[(t-3).toNat]?).map iW.er=(el'[(t-3).toNat]?).map iW.er:=by rw[<- JL,<- JL,h]
  cases ha:el[(t-3).toNat]? with
  |none=>
   cases hb:el'[(t-3).toNat]? with
   |none=>rfl
   |some v=>rw[ha,hb]at j;cases j
  |some u=>
  cases hb:el'[(t-3).toNat]? with
  |none=>rw[ha,hb]at j;cases j
  |some v=>
  rw[ha,hb]at j;injection j with j
  have:u.tags.l=v.tags.l:=nQ KD.tags j;show v.tags.l.length=u.tags.l.length
  rw[this]
 rw[iV o,iV o]
theorem NY (h:el.map iW.er=el'.map iW.er) (t v:Int):nq el' t v=nq el t v:=by unfold nq;rw[KE h]
theorem KP (s:ByteArray):∀{l m:List iW} (j:Nat),l.map iW.er=m.map iW.er->AB s m j=AB s l j
 |[],[],_,_=>rfl
 |[],b::m,_,h=>by cases h
 |a::l,[],_,h=>by cases h
 |a::l,b::m,j,h=>by
  rw[mJ,mJ]at h;injection h with h1 h2
  have h3:a.tags.l=b.tags.l:=nQ KD.tags h1;rw[AB,AB,h3,KP s (j+1) h2]
theorem Ko (s:ByteArray):∀{l m:List iW} (j:Nat),l.map iW.er=m.map iW.er->uv s m j=uv s l j
 |[],[],_,_=>rfl
 |[],b::m,_,h=>by cases h
 |a::l,[],_,h=>by cases h
 |a::l,b::m,j,h=>by
  rw[mJ,mJ]at h;injection h with h1 h2
  have h3:a.name=b.name:=nQ KD.name h1;rw[uv,uv,h3,Ko s (j+1) h2]
theorem Iw (h:el.map iW.er=el'.map iW.er):pw el el':=⟨⟨fun s=>KP s 0 h,KE h⟩,fun s=>Ko s 0 h⟩
mutual
theorem MW (h:el.map iW.er=el'.map iW.er):∀x y:Tx,x.er=y.er->x.size=y.size/\x.depth=y.depth/\kR x.list=kR y.list/\lv el x.list=lv el' y.list/\jL x.list=jL y.list
 |.mk k o t v s A c xs,.mk k' o' t' v' s' A' c' xs',he=>by
  rw[Tx.er,Tx.er]at he;injection he with h1 h2 h3 h4 h5 h6
  subst h1;subst h2;subst h3;subst h4;subst h5;obtain⟨g1,g2,g3,g4,g5,g6⟩:=MX h xs xs' h6;have e3:jL (.mk k o t v s A c xs::Tx.lists xs)=jL (.mk k o t v s A' c' xs'::Tx.lists xs'):=by
   unfold jL at g6⊢;rw[Bh,Bh,g6];rfl
  have I:uo (.mk k o t v s A c xs)=uo (.mk k o t v s A' c' xs'):=by show Ay k o t v s xs.length=Ay k o t v s xs'.length;rw[g5]
  have j:Bl el (.mk k o t v s A c xs)=Bl el' (.mk k o t v s A' c' xs'):=by
   show Dl el k t v xs.length=Dl el' k t v xs'.length
   unfold Dl;rw[KE h,NY h,g5]
  rw[Tx.size,Tx.size,Tx.depth,Tx.depth,Tx.list,Tx.list,kR,kR,lv,lv,I,j,g1,g2,g3,g4];exact⟨rfl,rfl,rfl,rfl,e3⟩
theorem MX (h:el.map iW.er=el'.map iW.er):∀x y:List Tx,Tx.kv x=Tx.kv y->Tx.sizes x=Tx.sizes y/\Tx.depths x=Tx.depths y/\kR (Tx.lists x)=kR (Tx.lists y)/\lv el (Tx.lists x)=lv el' (Tx.lists y)/\x.length=y.length/\jL (Tx.lists x)=jL (Tx.lists y)
 |[],[],_=>⟨rfl,rfl,rfl,rfl,rfl,rfl⟩
 |[],b::m,he=>by rw[Tx.kv,Tx.kv]at he;cases he
 |a::l,[],he=>by rw[Tx.kv,Tx.kv]at he;cases he
 |a::l,b::m,he=>by
  rw[Tx.kv,Tx.kv]at he;injection he with h1 h2
  obtain⟨f1,f2,f3,f4,f5⟩:=MW h a b h1;obtain⟨g1,g2,g3,g4,g5,g6⟩:=MX h l m h2;have e3:jL (a.list++Tx.lists l)=jL (b.list++Tx.lists m):=by
   unfold jL at f5 g6⊢;rw[He,He,f5,g6]
  rw[Tx.sizes,Tx.sizes,Tx.depths,Tx.depths,Tx.lists,Tx.lists,sw,sw,sr,sr,f1,f2,f3,f4,g1,g2,g3,g4,py,py,g5];exact⟨rfl,rfl,rfl,rfl,rfl,e3⟩
end
theorem FT (h:el.map iW.er=el'.map iW.er) {x y:Tx} (he:x.er=y.er):qk el x=qk el' y:=by
 obtain⟨J,I,o,j,-⟩:=MW h x y he;unfold qk vj;rw[J,I,o,j]
theorem PM {x y:Tx} (he:x.er=y.er):x.kind=y.kind:=by
 cases x;cases y;rw[Tx.er,Tx.er]at he;injection he
theorem QA (h:el.map iW.er=el'.map iW.er) (o:sO):vR el o=vR el' o:=by unfold vR;rw[NY h]
theorem zJ (h:el.map iW.er=el'.map iW.er) {p:Bool} {a b:iO} (he:a.er=b.er):jN el p a=jN el' p b:=by
 obtain⟨n,t,⟨A,c,l⟩⟩:=a;obtain⟨o,j,⟨R,J,I⟩⟩:=b;unfold iO.er at he;injection he with h1 h2 h3
 simp only[]at h1 h2 h3;subst h1;subst h2;subst h3;unfold jN;rw[KE h,show vR el=vR el' from funext (QA h)]
theorem M_ (h:el.map iW.er=el'.map iW.er) {a b:oX} (he:a.er=b.er):rN el a=rN el' b:=by
 obtain⟨⟨A,c,l⟩,x⟩:=a;obtain⟨⟨I,o,j⟩,y⟩:=b;unfold oX.er at he;injection he with h1 h2
 simp only[]at h1 h2;subst h1;unfold rN;simp only[];rw[FT h h2,PM h2]
theorem Mo (h:el.map iW.er=el'.map iW.er) {n:Nat} {s:Bool} {a b:ma} (he:a.er=b.er):tx el n s a=tx el' n s b:=by
 obtain⟨x,d,r⟩:=a;obtain⟨y,o,j⟩:=b;unfold ma.er at he;injection he with h1 h2 h3
 simp only[]at h1 h2 h3;subst h2;subst h3;unfold tx;simp only[];rw[FT h h1,(MW h x y h1).2.2.2.2]
mutual
theorem Qr (h:el.map iW.er=el'.map iW.er):∀(a b:StT) (n d:Nat),a.er=b.er->AM el n d a=AM el' n d b
 |.mk nm lo eq A c au ul ut,.mk nm' lo' eq' A' c' au' ul' ut',n,d,he=>by
  rw[StT.er,StT.er]at he;injection he with h1 h2 h3 h4 h5 h6
  subst h1;rw[AM,AM,pW h2,pW h3,Da au au' h4,pW h5,pW h6];unfold nN;rw[nf (fun a b=>zJ h) h2,nf (fun a b=>M_ h) h3,Kq h au au' (d+1) h4,nf (fun a b=>Mo h) h5,nf (fun a b=>Mo h) h6]
theorem Ku (h:el.map iW.er=el'.map iW.er):∀(a b:List StT) (n d:Nat),StT.kv a=StT.kv b->yA el n d a=yA el' n d b
 |[],[],_,_,_=>by rw[yA,yA]
 |[],b::m,_,_,he=>by rw[StT.kv,StT.kv]at he;cases he
 |a::l,[],_,_,he=>by rw[StT.kv,StT.kv]at he;cases he
 |a::l,b::m,n,d,he=>by
  rw[StT.kv,StT.kv]at he;injection he with h1 h2
  rw[yA,yA,Qr h a b n d h1,Ku h l m n d h2]
theorem Nr (h:el.map iW.er=el'.map iW.er):∀(a b:AuT) (d:Nat),a.er=b.er->rK el d a=rK el' d b
 |.mk A c l,.mk A' c' l',d,he=>by
  rw[AuT.er,AuT.er]at he;injection he with he
  have hl:l.length=l'.length:=by have:=nQ (fun x=>(x.map F5.nm).length) he;simpa[EZ] using this
  rw[rK,rK,hl,Ku h l l' l'.length d he]
theorem Kq (h:el.map iW.er=el'.map iW.er):∀(a b:List AuT) (d:Nat),AuT.kv a=AuT.kv b->yu el d a=yu el' d b
 |[],[],_,_=>by rw[yu,yu]
 |[],b::m,_,he=>by rw[AuT.kv,AuT.kv]at he;cases he
 |a::l,[],_,he=>by rw[AuT.kv,AuT.kv]at he;cases he
 |a::l,b::m,d,he=>by
  rw[AuT.kv,AuT.kv]at he;injection he with h1 h2
  rw[yu,yu,Nr h a b d h1,Kq h l m d h2]
end
theorem Mx (h:el.map iW.er=el'.map iW.er) {a b:nh} (he:a.er=b.er):mY el a=mY el' b:=by
 obtain⟨nn,⟨iA,ic,il⟩,⟨oA,oc,ol⟩,⟨lA,lc,ll⟩,⟨qA,qc,ql⟩,⟨aA,ac,al⟩,⟨sA,sc,sl⟩,⟨aj,ai,nl⟩⟩:=a;obtain⟨a',⟨ah,ag,af⟩,⟨a_,a8,a7⟩,⟨ae,ad,ab⟩,⟨a6,a1,U⟩,⟨ao,an,ak⟩,⟨R,J,I⟩,⟨o,j,aa⟩⟩:=b;unfold nh.er at he;injection he with h1 h2 h3 h4 h5 h6 h7 h8
 simp only[]at h1 h2 h3 h4 h5 h6 h7 h8;subst h1;unfold mY Ek KN nN;simp only[];rw[pW h2,pW h3,pW h4,pW h5,pW h6,pW h7,pW h8,nf (fun a b=>zJ h) h2,nf (fun a b=>zJ h) h3,nf (fun a b=>zJ h) h4,nf (fun a b=>M_ h) h5,nf (fun a b=>Nr h a b 0) h6,nf (fun a b=>FT h) h7,nf (fun a b=>FT h) h8]
theorem Nt {a b:iW} (he:a.er=b.er):oy a=oy b:=by
 obtain⟨n,⟨A,c,l⟩⟩:=a;obtain⟨j,⟨J,I,o⟩⟩:=b;unfold iW.er at he;injection he with h1 h2
 simp only[]at h1 h2;subst h1;subst h2;rfl
theorem zG (el:List iW):∀(l:List nh) (k:Nat),(∀n∈l,mY el n=0)->(qy el l k).2.2=0
 |[],k,_=>by rw[qy]
 |n::l,k,h=>by rw[qy,iG (h n nG)];exact zG el l (k+1) fun x hx=>h x (qj _ hx)
theorem A_ {α:Type} {f:α->Int}:∀{l:List α},(∀x∈l,f x=0)->iw f l=0
 |[],_=>rfl
 |a::l,h=>by rw[iw,kC (h a nG)];exact A_ fun x hx=>h x (qj _ hx)
theorem CI {α β:Type} {er:α->β} {l m:List α} (h:l.map er=m.map er) {y:α} (hy:y∈m):∃x∈l,er x=er y:=by
 have:er y∈l.map er:=by rw[h];exact xL hy
 obtain⟨x,j,e⟩:=yQ.1 this;exact⟨x,j,e⟩
theorem LM {nl nl':List nh} (h:el.map iW.er=el'.map iW.er) (hn:nl.map nh.er=nl'.map nh.er) (h0:(nv el nl).2.2=0):(nv el' nl').2.2=0:=by
 obtain⟨R,J,h1,U⟩:=uX h0;have hp:Im el' nl'=0:=by
  unfold Im;rw[kC]
  ·exact A_ fun u I=>by
    obtain⟨x,j,e⟩:=CI h I;rw[<- Nt e];exact h1 x j
  unfold iX;rw[iG];simp only[mT,decide_eq_true_eq];have:=pW h;have:=pW hn;omega
 unfold nv;rw[iG hp];refine zG el' nl' 0 fun n o=>?_
 obtain⟨x,j,e⟩:=CI hn o;rw[<- Mx h e];exact U x j
end
end
section
def rV (P:List Pc):Prop:=∀c:UInt8,jQ c.toNat=false->zE c P=true
def NI (P:List Pc):Prop:=∀c:UInt8,jQ c.toNat=false->jQ (zD c P).toNat=false
theorem lC:rV []:=fun _ _=>rfl
theorem pJ:NI []:=fun _ h=>h
theorem mr {b:UInt8} {P:List Pc} (hb:ke b.toNat=true) (h:rV P):rV (.sp b::P):=fun c hc=>by
 show (ke b.toNat&&zE c P)=true
 rw[hb,h c hc];rfl
theorem nk {b:UInt8} {P:List Pc} (hb:jQ b.toNat=false):NI (.sp b::P):=fun c hc=>hb
theorem na {a b:List Pc} (ha:rV a) (hn:NI b) (hb:rV b):rV (a++b):=fun c hc=>by rw[se,ha _ (hn c hc),hb c hc];rfl
theorem Mn {t:Tk} {P:List Pc} (h4:t.kind≠4) (hv:P7 t=true) (hn:NI P) (h:rV P):rV (.tk t::P):=fun c hc=>by
 show (P7 t&&wa t (zD c P)&&zE c P)=true
 rw[hv,h c hc];unfold wa;rw[iV h4];split
 ·rfl
 rw[hn c hc];rfl
theorem uM {s:ByteArray} {P:List Pc} (hs:kT s=true) (hn:NI P) (h:rV P):rV (rM s::P):=Mn (t:=⟨1,s⟩) (show (1:Int)≠4 by decide) hs hn h
theorem nX {l:List UInt8} {P:List Pc} (hs:RM ⟨l.toArray⟩=true) (hn:NI P) (h:rV P):rV (mB l::P):=Mn (t:=⟨3,⟨l.toArray⟩⟩) (show (3:Int)≠4 by decide) hs hn h
theorem Qi {n:Nat} {P:List Pc} (hs:n<=32768) (hn:NI P) (h:rV P):rV (.tk ⟨2,xF n⟩::P):=Mn (t:=⟨2,xF n⟩) (show (2:Int)≠4 by decide) (JN hs) hn h
theorem Sj {s:ByteArray} {P:List Pc} (hs:s.data.toList.all (fun c=>yc c.toNat)=true) (h:rV P):rV (So s::P):=fun c hc=>by
 show (s.data.toList.all (fun c=>yc c.toNat)&&true&&zE c P)=true
 rw[hs,h c hc];rfl
def Qq (l:List UInt8):Bool:=xG.any (fun s=>s.data.toList==l)
theorem pL {l:List UInt8} {P:List Pc} (hs:Qq l=true) (h1:l≠[45]) (h2:l≠[60]) (h3:l≠[62]) (h:rV P):rV (mf l::P):=fun c hc=>by
 show (Qq l&&wa ⟨4,⟨l.toArray⟩⟩ (zD c P)&&zE c P)=true
 rw[hs,h c hc];unfold wa;rw[iG rfl];show (true&&(!(l==[45]&&_)&&!(l==[60]&&_)&&!(l==[62]&&_))&&true)=true
 rw[beq_eq_false_iff_ne.2 h1,beq_eq_false_iff_ne.2 h2,beq_eq_false_iff_ne.2 h3];rfl
theorem tw {l:List UInt8} {P:List Pc} (hs:Qq l=true) (h:rV P):rV (mf l::.sp 32::P):=fun c hc=>by
 show (Qq l&&wa ⟨4,⟨l.toArray⟩⟩ 32&&zE c (.sp 32::P))=true
 rw[hs,mr iI h c hc];unfold wa;rw[iG rfl];simp
theorem Cw {P:List Pc} (hd:∀c:UInt8,zD c P≠45/\zD c P≠62\/P=[]) (hP:P≠[]) (h:rV P):rV (mf [45]::P):=fun c hc=>by
 show (Qq [45]&&wa ⟨4,⟨#[45]⟩⟩ (zD c P)&&zE c P)=true
 rw[show Qq [45]=true by decide +kernel,h c hc];unfold wa;rw[iG rfl];rcases hd c with⟨h1,h2⟩ | h9
 ·simp[h1,h2]
 exact absurd h9 hP
theorem ru {a:UInt8} {l:List UInt8} {P:List Pc} (h:jQ a.toNat=false):NI (mf (a::l)::P):=fun c _=>h
theorem NJ {s:ByteArray} {P:List Pc} (hs:kT s=true) (c:UInt8):mg (zD c (rM s::P)).toNat=true:=by
 have I:=(jM hs).1;unfold kT at hs;simp only[mT]at hs;have o:=hs.1.1.2;obtain⟨a,l,j⟩:=uq I;rw[j]at o;unfold zD;rw[lQ,j];exact o
theorem RY {n:Nat} {P:List Pc} (hn:n<=32768) (c:UInt8):jw (zD c (.tk ⟨2,xF n⟩::P)).toNat=true:=by
 have h:=JN hn;unfold Ri at h;simp only[mT,decide_eq_true_eq]at h;obtain⟨⟨⟨I,j⟩,-⟩,-⟩:=h;obtain⟨a,l,o⟩:=uq I;unfold zD;rw[Cm,o];rw[o]at j;simp only[Bh,mT]at j;exact j.1
theorem zT {c:UInt8} (h:mg c.toNat=true):c≠45/\c≠62:=⟨fun e=>by rw[e]at h;exact absurd h iI,fun e=>by rw[e]at h;exact absurd h iI⟩
theorem MF {c:UInt8} (h:jw c.toNat=true):c≠45/\c≠62:=⟨fun e=>by rw[e]at h;exact absurd h iI,fun e=>by rw[e]at h;exact absurd h iI⟩
theorem M' {s:ByteArray} (h:(pb s.data.toList).2=0):s.data.toList.all (fun c=>yc c.toNat)=true:=by
 by_cases j:66<s.data.toList.length
 ·rw[wU j]at h;exact absurd h iI
 by_cases o:∃h l,Ag s.data.toList h l
 ·obtain⟨a,b,R,-⟩:=o
  have I:∀l:List Bool,(n_ l).all (fun c=>yc c.toNat)=true:=fun l=>by
   unfold n_;rw[List.all_map,Bk];intro x _;cases x<;>decide
  rw[R,wO,He,Bh,He,I,I];decide
 rw[Bg j (fun a b J=>o ⟨a,b,J⟩)]at h;exact absurd h iI
structure Du (el:List iW):Prop where
 tg:∀u∈el,∀g∈u.tags.l,kT g=true
 nm:∀u∈el,kT u.name=true
section
variable {el:List iW}
theorem Rj (hI:Du el) {t v:Int} (ht:qS el t) (hv:nq el t v=true):rV (wm el t v):=by
 unfold wm;by_cases o:t=1
 ·rw[iG o]
  split
  ·exact nX (by decide +kernel) pJ lC
  exact nX (by decide +kernel) pJ lC
 rw[iV o];by_cases j:t=2
 ·rw[iG j]
  unfold nq at hv;rw[iG j]at hv;simp only[mT,decide_eq_true_eq]at hv;split
  ·exact Cw (fun c=>.inl (MF (RY iu c))) (by simp) (Qi iu pJ lC)
  exact Qi iu pJ lC
 rw[iV j];have R:3<=t/\(t-3).toNat<el.length:=by
  rcases ht with h | h | h
  ·exact absurd h o
  ·exact absurd h j
  omega
 have J:=qn R.2;unfold nq at hv;rw[iV j]at hv;simp only[mT,decide_eq_true_eq]at hv;unfold jV at hv;rw[iV o,iV j,iG R.1,J]at hv;simp only[]at hv;rw[J];have I:v.toNat<(el[(t-3).toNat]).tags.l.length:=iu;show rV [rM ((el[(t-3).toNat]).tags.l.getD v.toNat ⟨#[]⟩)]
 rw[wC,qn I];exact uM (hI.tg _ (Fq _) _ (Fq _)) pJ lC
theorem Qf (hI:Du el) {t v:Int} {s:ByteArray} (ht:qS el t) (hv:nq el t v=true) (hs:kT s=true):rV (FX el t v s):=
 nX (by decide +kernel) (nk iI) (mr iI (na (Rj hI ht hv) (ru iI) (pL (by decide +kernel) iI iI iI (uM hs (ru iI) (pL (by decide +kernel) iI iI iI lC)))))
theorem qX {a:Ar} (h:rV a.l):rV (kM a):=by
 unfold kM;split
 ·exact h
 exact pL (by decide +kernel) iI iI iI (na h (ru iI) (pL (by decide +kernel) iI iI iI lC))
theorem QO {o:Int} {P:List Pc} (h3:3<=o) (h16:o<=16) (h:rV P):rV (z_ o::.sp 32::P):=by
 rcases (by omega:o=3\/o=4\/o=5\/o=6\/o=7\/o=8\/o=9\/o=10\/o=11\/o=12\/o=13\/o=14\/o=15\/o=16) with e | e | e | e | e | e | e | e | e | e | e | e | e | e<;>(subst e;first | exact tw (by decide +kernel) h | exact nX (by decide +kernel) (nk iI) (mr iI h))
theorem Qk (hI:Du el) {t:Int} (ht:qS el t):∀(L:List Ar) (i:Nat),(∀a∈L,rV a.l)->(∀j,i<=j->j<i+L.length->nq el t (if t=1 then 1-(j:Int) else j)=true)->rV (wj el t i L)/\NI (wj el t i L)
 |[],i,_,_=>⟨by rw[wj];exact lC,by rw[wj];exact pJ⟩
 |a::L,i,ha,h=>by
  obtain⟨h1,h2⟩:=Qk hI ht L (i+1) (fun b hb=>ha b (qj _ hb)) fun j h9 h8=>h j iu (by simp only[py];omega)
  rw[wj];refine⟨mr iI (pL (by decide +kernel) iI iI iI (na (Rj hI ht (h i (js _) (by simp))) (nk iI) (mr iI (tw (by decide +kernel) ?_)))),nk iI⟩;exact na (ha a nG) (ru iI) (pL (by decide +kernel) iI iI iI h1)
theorem NO:∀{l:List (List Pc)},(∀x∈l,rV x)->rV (mq qR l)
 |[],_=>by rw[mq];exact lC
 |[a],h=>by rw[mq];exact h a nG
 |a::b::l,h=>by
  rw[mq,kD];exact na (h a nG) (ru iI) (pL (by decide +kernel) iI iI iI (mr iI (NO fun x hx=>h x (qj _ hx))))
theorem qY {L:List Ar} (h:∀a∈L,rV a.l) (i:Nat):rV (pF L i).l:=by
 unfold pF;rw[wC];cases hg:L[i]? with
 |none=>exact lC
 |some a=>exact h a (om hg)
theorem J8 (hI:Du el) {x:Ex} (hg:GE el x) (hc:kG x=false) (c:UInt8):zD c (kM ⟨kb x,kG x,kX el x⟩)≠45/\zD c (kM ⟨kb x,kG x,kX el x⟩)≠62:=by
 unfold kM;by_cases hp:kb x=true
 ·rw[iG hp]
  obtain⟨k,o,t,v,s,xs⟩:=x;rw[GE]at hg;rw[kb]at hp;rw[kG]at hc;rw[kX];obtain⟨-,⟨rfl,rfl,J,rfl,ht,j⟩ | ⟨rfl,rfl,rfl,rfl,J,I⟩ | ⟨rfl,ho,rfl,rfl,rfl⟩ | ⟨hk,rfl,rfl,rfl,rfl⟩ | ⟨rfl,rfl,J,a1,ht,j,I⟩ | ⟨rfl,rfl,rfl,a1,ht,J,a7,I⟩ | ⟨rfl,rfl,rfl,j,I⟩ | ⟨rfl,rfl,rfl,rfl,J,I⟩⟩:=hg.1
  ·have R:t≠2:=by simpa using hc
   show zD c (wm el t v)≠45/\zD c (wm el t v)≠62
   unfold wm;by_cases U:t=1
   ·rw[iG U]
    split
    ·exact⟨by show (116:UInt8)≠45;decide,by show (116:UInt8)≠62;decide⟩
    exact⟨by show (102:UInt8)≠45;decide,by show (102:UInt8)≠62;decide⟩
   rw[iV U,iV R];have h3:3<=t/\(t-3).toNat<el.length:=by
    rcases ht with h | h | h
    ·exact absurd h U
    ·exact absurd h R
    omega
   have hu:=qn h3.2;unfold nq at j;rw[iV R]at j;simp only[mT,decide_eq_true_eq]at j;unfold jV at j;rw[iV U,iV R,iG h3.1,hu]at j;simp only[]at j;rw[hu];have a6:v.toNat<(el[(t-3).toNat]).tags.l.length:=iu;show zD c [rM ((el[(t-3).toNat]).tags.l.getD v.toNat ⟨#[]⟩)]≠45/\zD c [rM ((el[(t-3).toNat]).tags.l.getD v.toNat ⟨#[]⟩)]≠62
   rw[wC,qn a6];exact zT (NJ (hI.tg _ (Fq _) _ (Fq _)) c)
  ·exact zT (NJ I c)
  ·simp at hp
  ·rcases hk with⟨rfl,-⟩ | ⟨rfl,-⟩ | ⟨rfl,-⟩ | ⟨rfl,-⟩<;>simp at hp
  ·simp at hp
  ·simp at hp
  ·exact zT (NJ I c)
  exact⟨by show (39:UInt8)≠45;decide,by show (39:UInt8)≠62;decide⟩
 rw[iV hp];exact⟨by show (40:UInt8)≠45;decide,by show (40:UInt8)≠62;decide⟩
theorem O7 {x:Ex} (hg:GE el x) (hI:Du el):kM ⟨kb x,kG x,kX el x⟩≠[]:=by
 intro h;have j:∀c,zD c (kM ⟨kb x,kG x,kX el x⟩)=c:=fun c=>by rw[h];rfl
 cases hc:kG x with
 |false=>exact (J8 hI hg hc 45).1 (j 45)
 |true=>
 obtain⟨k,o,t,v,s,I⟩:=x;rw[kG]at hc;simp only[mT,beq_iff_eq]at hc;obtain⟨rfl,rfl⟩:=hc;unfold kM at h;split at h
 ·rw[kX]at h
  have h:wm el 2 v=[]:=h;unfold wm at h;rw[iV iI,iG rfl]at h;split at h<;>cases h
 cases h
mutual
theorem Sa (hI:Du el):∀x:Ex,GE el x->rV (kX el x)
 |.mk k o t v s xs,hg=>by
  rw[GE]at hg;have hL:=Qh hI xs hg.2;have hG:∀i x,xs[i]?=some x->GE el x:=fun i x h=>hg.2.get h
  rw[kX];obtain⟨-,⟨rfl,rfl,hn,rfl,ht,hv⟩ | ⟨rfl,rfl,rfl,rfl,hn,hs⟩ | ⟨rfl,ho,rfl,rfl,rfl⟩ | ⟨hk,rfl,rfl,rfl,rfl⟩ | ⟨rfl,rfl,hn,ht2,ht,hv,hs⟩ | ⟨rfl,rfl,rfl,ht2,ht,hn,h1n,hs⟩ | ⟨rfl,rfl,rfl,hv,hs⟩ | ⟨rfl,rfl,rfl,rfl,hn,hs⟩⟩:=hg.1
  ·exact Rj hI ht hv
  ·exact uM hs pJ lC
  ·show rV (EA o (jy el xs))
   unfold EA;rcases ho with⟨h1,h2,hn⟩ | ⟨h1,h2,hn⟩
   ·by_cases h3:o=1
    ·rw[iG h3]
     exact nX (by decide +kernel) (nk iI) (mr iI (qX (qY hL 0)))
    rw[iV h3,iG iu];obtain⟨a,ha⟩:∃a,xs[0]?=some a:=⟨_,qn iu⟩;rw[pz el ha];have hoa:rV (kX el a):=by have:=qY hL 0;rw[pz el ha]at this;exact this
    show rV (if kG a=true then _ else _)
    split
    ·exact Cw (fun c=>.inl ⟨by show (40:UInt8)≠45;decide,by show (40:UInt8)≠62;decide⟩) (by simp) (pL (by decide +kernel) iI iI iI (na hoa (ru iI) (pL (by decide +kernel) iI iI iI lC)))
    rename_i hc
    exact Cw (fun c=>.inl (J8 hI (hG 0 a ha) (by simpa using hc) c)) (O7 (hG 0 a ha) hI) (qX hoa)
   rw[iV iu,iV iu];exact na (qX (qY hL 0)) (nk iI) (mr iI (QO h1 h2 (qX (qY hL 1))))
  ·rcases hk with⟨rfl,hn⟩ | ⟨rfl,hn⟩ | ⟨rfl,hn⟩ | ⟨rfl,hn⟩
   ·exact nX (by decide +kernel) (nk iI) (mr iI (na (qY hL 0) (nk iI) (mr iI (nX (by decide +kernel) (nk iI) (mr iI (na (qY hL 1) (nk iI) (mr iI (nX (by decide +kernel) (nk iI) (mr iI (qY hL 2))))))))))
   ·exact nX (by decide +kernel) (nk iI) (mr iI (qX (qY hL 0)))
   ·exact na (qX (qY hL 0)) (nk iI) (mr iI (tw (by decide +kernel) (qX (qY hL 1))))
   exact na (qX (qY hL 0)) (nk iI) (mr iI (nX (by decide +kernel) (nk iI) (mr iI (qX (qY hL 1)))))
  ·exact na (qX (qY hL 0)) (nk iI) (mr iI (Qf hI ht hv hs))
  ·have hb:=Qk hI ht (if t=1 then (jy el xs).reverse else jy el xs) 0 (by
    split
    ·exact fun a ha=>hL a (List.mem_reverse.1 ha)
    ·exact hL) (fun j _ hj=>uL ht2 hn (by
    have:(if t=1 then (jy el xs).reverse else jy el xs).length=xs.length:=by split<;>simp[nD]
    omega))
   exact nX (by decide +kernel) (nk iI) (mr iI (uM hs hb.2 hb.1))
  ·show rV (AU v s (jy el xs))
   unfold AU;refine uM hs (ru iI) (pL (by decide +kernel) iI iI iI (na (NO fun x hx=>?_) (ru iI) (pL (by decide +kernel) iI iI iI ?_)))
   ·obtain⟨a,ha,rfl⟩:=yQ.1 hx
    exact hL a (List.mem_of_mem_take ha)
   split
   ·exact mr iI (nX (by decide +kernel) (nk iI) (mr iI (qX (qY hL _))))
   exact lC
  exact Sj (M' hs) lC
theorem Qh (hI:Du el):∀xs:List Ex,IE el xs->∀a∈jy el xs,rV a.l
 |[],_,a,h=>by rw[jy]at h;cases h
 |x::xs,hg,a,h=>by
  rw[IE]at hg;rw[jy]at h;rcases uW.1 h with h | h
  ·rw[h];exact Sa hI x hg.1
  exact Qh hI xs hg.2 a h
end
def Hz (P:List Pc):Prop:=∀c:UInt8,zE c P=true
theorem BB:Hz []:=fun _=>rfl
theorem mU {a b:List Pc} (ha:Hz a) (hb:Hz b):Hz (a++b):=fun c=>by rw[se,ha _,hb c];rfl
theorem sg {k:Nat} {P:List Pc} (h:rV P):Hz (rL k P):=fun c=>by
 unfold rL;have hr:∀n d,zE d (List.replicate n (.sp 32))=true:=fun n=>by
  induction n with
  |zero=>exact fun _=>rfl
  |succ n ih=>exact fun d=>by rw[L6];show (ke 32&&zE d _)=true;rw[ih d];rfl
 rw[se,hr,se,h _ (by show jQ (10:UInt8).toNat=false;decide)];rfl
theorem wR {α:Type} {f:α->List Pc}:∀{l:List α},(∀x∈l,Hz (f x))->Hz (l.flatMap f)
 |[],_=>BB
 |a::l,h=>by rw[pZ];exact mU (h a nG) (wR fun x hx=>h x (qj _ hx))
theorem Fx {a:UInt8} {t:List UInt8} (ha:Qq (a::t)=true) (h1:a::t≠[45]) (h2:a::t≠[60]) (h3:a::t≠[62]) (hi:jQ a.toNat=false):∀{l:List (List Pc)},(∀x∈l,rV x)->rV (mq [mf (a::t),.sp 32] l)
 |[],_=>by rw[mq];exact lC
 |[x],h=>by rw[mq];exact h x nG
 |x::y::l,h=>by
  rw[mq,kD];exact na (h x nG) (ru hi) (pL ha h1 h2 h3 (mr iI (Fx ha h1 h2 h3 hi fun z hz=>h z (qj _ hz))))
theorem Kc:∀{l:List (List Pc)},(∀x∈l,rV x)->rV (mq [.sp 32] l)
 |[],_=>by rw[mq];exact lC
 |[x],h=>by rw[mq];exact h x nG
 |x::y::l,h=>by
  rw[mq,kD];exact na (h x nG) (nk iI) (mr iI (Kc fun z hz=>h z (qj _ hz)))
theorem J9:∀{l:List (List Pc)},(∀x∈l,rV x)->rV (mq Jj l)
 |[],_=>by rw[mq];exact lC
 |[x],h=>by rw[mq];exact h x nG
 |x::y::l,h=>by
  rw[mq,kD];exact na (h x nG) (nk iI) (mr iI (tw (by decide +kernel) (J9 fun z hz=>h z (qj _ hz))))
theorem Sf (hI:Du el) {t:Int} (ht:qS el t) {P:List Pc} (hn:NI P) (hP:rV P):rV (F6 el t::P):=by
 unfold F6;by_cases o:t=1
 ·rw[iG o];exact nX (by decide +kernel) hn hP
 rw[iV o];by_cases j:t=2
 ·rw[iG j];exact nX (by decide +kernel) hn hP
 rw[iV j];have I:(t-3).toNat<el.length:=by
  rcases ht with h | h | h
  ·exact absurd h o
  ·exact absurd h j
  omega
 rw[qn I];exact uM (hI.nm _ (Fq _)) hn hP
theorem Pz (hI:Du el) {d:iO} {port:Bool} (h:jN el port d=0):rV (pv el d):=by
 obtain⟨U,R,h3,J⟩:=yL h;unfold pv;refine uM U (ru iI) (tw (by decide +kernel) (Sf hI R ?_ ?_))
 ·split
  ·exact pJ
  exact nk iI
 split
 ·exact lC
 refine mr iI (Kc fun x j=>?_);obtain⟨o,I,rfl⟩:=yQ.1 j;obtain⟨g1,g2,g3,g4⟩:=Fb (jd J o I);exact Qf hI g3 g4 g1
theorem CG (hI:Du el) {l:List iO} {port:Bool} (h:nN el port l=0):rV (kO el l):=
 Fx (by decide +kernel) iI iI iI iI fun x hx=>by
  obtain⟨d,hd,rfl⟩:=yQ.1 hx;exact Pz hI (jd h d hd)
theorem Ee (hI:Du el) {k:Nat} {l:List iO} (h:nN el false l=0):Hz (nr el k l):=by
 unfold nr;split
 ·exact BB
 exact sg (nX (by decide +kernel) (nk iI) (mr iI (na (CG hI h) (ru iI) (pL (by decide +kernel) iI iI iI lC))))
theorem Mm {l:List ByteArray} (h:iw jA l=0):rV (Bo l):=
 Fx (by decide +kernel) iI iI iI iI fun x hx=>by
  obtain⟨s,hs,rfl⟩:=yQ.1 hx;exact uM (nS (jd h s hs)) pJ lC
theorem NH (hI:Du el) {x:Tx} (h:qk el x=0):rV (kX el x.er):=Sa hI _ (Ki h).1
theorem P8 (hI:Du el) {k:Nat} {q:oX} (h:rN el q=0):Hz (zj el k q):=by
 obtain⟨J,I,j,o,-⟩:=Fz h;refine sg (na ?_ (nk iI) (mr iI (tw (by decide +kernel) (na (NH hI o) (ru iI) (pL (by decide +kernel) iI iI iI lC)))));unfold vU;split
 ·exact pL (by decide +kernel) iI iI iI (na (Mm j) (ru iI) (pL (by decide +kernel) iI iI iI lC))
 exact Mm j
theorem M1 (hI:Du el) {k:Nat} {wd:List UInt8} (hw:RM ⟨wd.toArray⟩=true) {nms:List ByteArray} (hn:∀s∈nms,kT s=true) {l:List ma} (h:∀t∈l,qk el t.cond=0/\0<=t.dst/\t.dst<(nms.length:Int)):Hz (sk el k wd nms l):=
 wR fun t ht=>by
  obtain⟨h1,h2,h3⟩:=h t ht;have hlt:t.dst.toNat<nms.length:=iu;refine sg (nX hw (nk iI) (mr iI (na (NH hI h1) (nk iI) (mr iI ?_))));have hid:rV (rM (nms.getD t.dst.toNat ⟨#[]⟩)::[mf [59]]):=by
   rw[wC,qn hlt];exact uM (hn _ (Fq _)) (ru iI) (pL (by decide +kernel) iI iI iI lC)
  unfold Aj;split
  ·exact nX (by decide +kernel) (nk iI) (mr iI hid)
  exact nX (by decide +kernel) (nk iI) (mr iI hid)
mutual
theorem Si (hI:Du el):∀(a:AuT) (d k:Nat),rK el d a=0->Hz (CN el k a)
 |.mk A c l,d,k,h=>by
  rw[rK]at h;have h:=(jI (jI (jI h).2).2).2;rw[CN];refine mU (mU (sg (nX (by decide +kernel) pJ lC)) ?_) (sg (nX (by decide +kernel) pJ lC));refine Me hI l d k l.length (l.map StT.name) (by rw[pE]) ?_ h;intro s hs;obtain⟨x,hx,rfl⟩:=yQ.1 hs;rw[EL]at h;exact (wP (jd h x hx)).2.1
theorem Jg (hI:Du el):∀(l:List AuT) (d k:Nat),yu el d l=0->Hz (vN el k l)
 |[],_,_,_=>by rw[vN];exact BB
 |a::l,d,k,h=>by
  rw[yu]at h;rw[vN];exact mU (Si hI a d k (jI h).1) (Jg hI l d k (jI h).2)
theorem RJ (hI:Du el):∀(x:StT) (d k n:Nat) (nms:List ByteArray),nms.length=n->(∀s∈nms,kT s=true)->AM el n d x=0->Hz (IC el k nms x)
 |.mk nm lo eq A c au ul ut,d,k,n,nms,hl,hn,h=>by
  have hq:=(wP h).2.1;rw[AM]at h;obtain⟨h1,h⟩:=jI h;obtain⟨h2,h⟩:=jI h;obtain⟨h3,h⟩:=jI h;obtain⟨h4,h⟩:=jI h;obtain⟨h5,h⟩:=jI h;obtain⟨h6,h7⟩:=jI h;rw[IC];refine mU (sg (nX (by decide +kernel) (nk iI) (mr iI (uM (nS h1) pJ lC)))) (mU (Ee hI h3) (mU (M1 hI (by decide +kernel) hn fun t ht=>?_) (mU (sg (nX (by decide +kernel) pJ lC)) (mU (mU (wR fun q hq=>P8 hI (jd h4 q hq)) (Jg hI au (d+1) (k+2) h5)) (mU (M1 hI (by decide +kernel) hn fun t ht=>?_) (sg (nX (by decide +kernel) pJ lC)))))))
  ·rw[hl];exact Af (jd h6 t ht)
  rw[hl];exact Af (jd h7 t ht)
theorem Me (hI:Du el):∀(l:List StT) (d k n:Nat) (nms:List ByteArray),nms.length=n->(∀s∈nms,kT s=true)->yA el n d l=0->Hz (wi el k nms l)
 |[],_,_,_,_,_,_,_=>by rw[wi];exact BB
 |x::l,d,k,n,nms,hl,hn,h=>by
  rw[yA]at h;rw[wi];exact mU (RJ hI x d k n nms hl hn (jI h).1) (Me hI l d k n nms hl hn (jI h).2)
end
theorem Ih (hI:Du el) {kw:List UInt8} (hk:RM ⟨kw.toArray⟩=true) {x:Tx} (h:qk el x=0):Hz (kI el kw x):=
 sg (nX hk (nk iI) (mr iI (na (NH hI h) (ru iI) (pL (by decide +kernel) iI iI iI lC))))
theorem OO (hI:Du el) {n:nh} (h:mY el n=0):Hz (qo el n):=by
 obtain⟨k1,k2,k3,U,k5,k6,k7,k8,R,a8,I,a7,o,a6,j,a1⟩:=yW h;refine mU (sg ?_) (mU (Ee hI U) (mU (wR fun x J=>Ih hI (by decide +kernel) (jd o x J)) (mU (wR fun x J=>Ih hI (by decide +kernel) (jd j x J)) (mU (sg (nX (by decide +kernel) pJ lC)) (mU ?_ (sg (nX (by decide +kernel) pJ lC)))))))
 ·exact nX (by decide +kernel) (nk iI) (mr iI (uM k1 (ru iI) (pL (by decide +kernel) iI iI iI (na (CG hI k2) (ru iI) (pL (by decide +kernel) iI iI iI (mr iI (nX (by decide +kernel) (nk iI) (mr iI (pL (by decide +kernel) iI iI iI (na (CG hI k3) (ru iI) (pL (by decide +kernel) iI iI iI lC)))))))))))
 unfold qJ;exact mU (wR fun q hq=>P8 hI (jd R q hq)) (Jg hI _ 0 1 (by rw[Ff];exact I))
theorem Pv {u:iW} (h:oy u=0):Hz (sF u):=by
 obtain⟨J,U,R,I⟩:=qm h;refine sg (nX (by decide +kernel) (nk iI) (mr iI (uM J (nk iI) (mr iI (tw (by decide +kernel) (na (J9 fun x j=>?_) (ru iI) (pL (by decide +kernel) iI iI iI lC)))))));obtain⟨s,o,rfl⟩:=yQ.1 j;exact uM (nS (jd I s o)) pJ lC
theorem Q8 (h:∀u∈el,oy u=0):Du el:=⟨fun u hu g hg=>nS (jd (qm (h u hu)).2.2.2 g hg),fun u hu=>(qm (h u hu)).1⟩
theorem PT {nl:List nh} (h:(nv el nl).2.2=0):zE 32 (qK el nl)=true:=by
 obtain⟨-,-,j,J⟩:=uX h;exact mU (wR fun u o=>Pv (j u o)) (wR fun n I=>OO (Q8 j) (J n I)) 32
end
end
end Go.Proofs.YtnigblndonocfaaGreatDoor
