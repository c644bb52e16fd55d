/- A part of the proof. -/
import Derived.Test.YtnigblndonocfaaGreatDoorP9
set_option linter.unusedVariables false
set_option linter.unusedSimpArgs false
namespace Go.Proofs.YtnigblndonocfaaGreatDoor
set_option maxRecDepth 100000
set_option maxHeartbeats 1600000
open Go.RowKit Go.BigFrame Go.Proofs.Tryz
structure pw (el el':List iW):Prop where
 al:x_ el el'
 ix:∀s,uv s el' 0=uv s el 0
theorem Ga:∀n:Nat,toks (List.replicate n (.sp 32))=[]
 |0=>rfl
 |n+1=>by rw[L6,jT,Ga n]
theorem sv (k:Nat) (P:List Pc):toks (rL k P)=toks P:=by
 unfold rL;rw[iN,iN,Ga,jT,po,sb,oV]
theorem Kb {s:yB}:∀{l:List iW} {k j:Nat},uv s l k=some j->∃i u,j=k+i/\l[i]?=some u/\u.name=s
 |[],k,j,h=>by cases h
 |u::l,k,j,h=>by
  unfold uv at h;by_cases hu:u.name=s
  ·rw[iG hu]at h
   injection h with h
   exact⟨0,u,h.symm,rfl,hu⟩
  rw[iV hu]at h;obtain⟨i,u',h1,h2,h3⟩:=Kb h;exact⟨i+1,u',iu,by simpa using h2,h3⟩
theorem Kz {s:yB}:∀{l:List yB} {k j:Nat},vM s l k=some j->∃i,j=k+i/\l[i]?=some s
 |[],k,j,h=>by cases h
 |u::l,k,j,h=>by
  unfold vM at h;by_cases hu:u=s
  ·rw[iG hu]at h
   injection h with h
   exact⟨0,h.symm,by rw[hu];rfl⟩
  rw[iV hu]at h;obtain⟨i,h1,h2⟩:=Kz h;exact⟨i+1,iu,by simpa using h2⟩
section
variable {el el':List iW}
theorem Jv (hA:pw el el') {o:sO} (hE:vR el o=0) (hG:RC el o):∃tl,toks (Lk el o)=⟨3,⟨#[119,104,101,110]⟩⟩::tl/\∀r,mD el' (tl++r)=some (o,r):=by
 obtain⟨h1,R,J,I⟩:=Fb hE;obtain⟨j,e1,U,-,-⟩:=Bt hA.al R J I hG;refine⟨j::⟨4,⟨#[40]⟩⟩::⟨1,o.name⟩::[⟨4,⟨#[41]⟩⟩],?_,fun r=>?_⟩
 ·unfold Lk FX
  rw[pd,jT,iN,e1];rfl
 show mD el' (j::⟨4,⟨#[40]⟩⟩::⟨1,o.name⟩::⟨4,⟨#[41]⟩⟩::r)=_
 unfold mD;rw[U];show (iF [⟨#[40]⟩] (⟨4,⟨#[40]⟩⟩::_)).bind _=_
 rw[lJ [40]];show (iF [⟨#[41]⟩] (⟨4,⟨#[41]⟩⟩::r)).bind _=_
 rw[lJ [41]];rfl
theorem yd:∀l:List sO,toks (o_ el l)=l.flatMap fun o=>toks (Lk el o)
 |[]=>rfl
 |[a]=>by show toks (Lk el a)=toks (Lk el a)++[];rw[oV]
 |a::b::l=>by
  have ih:=yd (b::l);unfold o_ at ih⊢;rw[mJ,mJ,mq,iN,iN,<- mJ,ih];show toks (Lk el a)++[]++_=_
  rw[oV];rfl
theorem Hn (hA:pw el el'):∀(l acc:List sO) (m:Nat) (r:List Tk),iw (vR el) l=0->(∀o∈l,RC el o)->l<=m->jq ⟨#[119,104,101,110]⟩ r=false ->
  pX el' m acc (toks (o_ el l)++r)=some (acc++l,r)
 |[],acc,m,r,_,_,_,hr=>by
  show pX el' m acc r=_
  unfold pX;rw[hr,iV iI,oV]
 |a::l,acc,m,r,hE,hG,hm,hr=>by
  rw[iw]at hE;obtain⟨h1,h2⟩:=jI hE;obtain⟨tl,e1,e2⟩:=Jv hA h1 (hG a nG);obtain⟨m,rfl⟩:∃j,m=j+1:=⟨m-1,by rw[py]at hm;omega⟩;have ih:=Hn hA l (acc++[a]) m r h2 (fun o ho=>hG o (qj _ ho)) (by rw[py]at hm;omega) hr;rw[yd,pZ,e1,kD,lP];rw[yd]at ih;unfold pX;rw[jk,iG iI,ry,e2];show pX el' m (acc++[a]) _=_
  rw[ih,kD];rfl
theorem PN (hA:pw el el') {t:Int} (ht:qS el t) (hG:Tf el t) (r:List Tk):∃tk,toks [F6 el t]=[tk]/\Ma el' (tk::r)=some (t,r):=by
 unfold F6;by_cases I:t=1
 ·rw[iG I]
  refine⟨⟨3,⟨#[98,111,111,108]⟩⟩,rfl,?_⟩;unfold Ma;rw[jk,iG iI,I];rfl
 rw[iV I];by_cases o:t=2
 ·rw[iG o]
  refine⟨⟨3,⟨#[105,110,116]⟩⟩,rfl,?_⟩;unfold Ma;rw[jk,iV iI,jk,iG iI,o];rfl
 rw[iV o];have h3:3<=t:=by
  rcases ht with h | h | h
  ·exact absurd h I
  ·exact absurd h o
  exact h.1
 obtain⟨s,j,J,h5⟩:=hG h3;obtain⟨i,u,h6,U,R⟩:=Kb J;rw[show (t-3).toNat=i by omega,U];refine⟨⟨1,u.name⟩,rfl,?_⟩;unfold Ma;rw[uy,uy,iV iI,iV iI];show (match uv u.name el' 0 with | some j=>some (3+(j:Int),r) | none=>none)=_
 rw[hA.ix,R,J,h5]
theorem xD (hA:pw el el') {d:iO} {port:Bool} (hE:jN el port d=0) (hG:Kx el d.er) {r:List Tk} (hr:jq ⟨#[119,104,101,110]⟩ r=false) :
  ∃tl,toks (pv el d)=⟨1,d.name⟩::tl/\wG el' (toks (pv el d)++r)=some (d.er,r):=by
 obtain⟨h1,R,J,I⟩:=yL hE;have o:toks (if d.clock.l.length=0 then [] else .sp 32::o_ el d.clock.l)=toks (o_ el d.clock.l):=by
  split
  ·rename_i h0
   rw[B_ h0];rfl
  rw[jT]
 obtain⟨j,e1,U⟩:=PN hA R hG.1 (toks (o_ el d.clock.l)++r);have hp:toks (pv el d)=⟨1,d.name⟩::⟨4,⟨#[58]⟩⟩::j::toks (o_ el d.clock.l):=by
  unfold pv;rw[um,lK,jT,show ∀q:List Pc,F6 el d.ty::q=[F6 el d.ty]++q from fun _=>rfl,iN,e1,o];rfl
 refine⟨_,hp,?_⟩;rw[hp];show wG el' (⟨1,d.name⟩::⟨4,⟨#[58]⟩⟩::j::(toks (o_ el d.clock.l)++r))=_
 unfold wG;show (iF [⟨#[58]⟩] (⟨4,⟨#[58]⟩⟩::_)).bind _=_
 rw[lJ [58]];show (Ma el' (j::_)).bind _=_
 rw[U];show (pX el' 4 [] (toks (o_ el d.clock.l)++r)).bind _=_
 rw[Hn hA d.clock.l [] 4 r I hG.2 J hr];rfl
theorem vC (a:iO):∀l:List iO,toks (kO el (a::l))=toks (pv el a)++l.flatMap fun d=>⟨4,⟨#[59]⟩⟩::toks (pv el d)
 |[]=>by show toks (pv el a)=_++[];rw[oV]
 |b::l=>by
  have ih:=vC b l;unfold kO at ih⊢;rw[mJ,mJ,mq,iN,iN,<- mJ,ih,kD];rfl
theorem vK (hA:pw el el') {port b:Bool}:∀(l:List iO) (a:iO) (acc:List FZ) (m:Nat) (r:List Tk),nN el port (a::l)=0->(∀d∈a::l,Kx el d.er)->(a::l).length<=m->jq ⟨#[119,104,101,110]⟩ r=false ->
  (!jq ⟨#[59]⟩ r||(b&&!ju 1 r.tail))=true->mv el' b m acc (toks (kO el (a::l))++r)=some (acc++(a::l).map iO.er,r)
 |[],a,acc,m,r,hE,hG,hm,hr,hend=>by
  obtain⟨m,rfl⟩:∃j,m=j+1:=⟨m-1,by rw[py]at hm;omega⟩;unfold nN at hE;rw[iw]at hE;obtain⟨tl,-,e2⟩:=xD hA (jI hE).1 (hG a nG) hr;show mv el' b (m+1) acc (toks (pv el a)++r)=_
  rw[mv,e2];show (if (!jq ⟨#[59]⟩ r||(b&&!ju 1 r.tail))=true then _ else _)=_
  rw[iG hend];rfl
 |c::l,a,acc,m,r,hE,hG,hm,hr,hend=>by
  obtain⟨m,rfl⟩:∃j,m=j+1:=⟨m-1,by rw[py]at hm;omega⟩;unfold nN at hE;rw[iw]at hE;obtain⟨h1,h2⟩:=jI hE;have ih:=vK hA (b:=b) l c (acc++[a.er]) m r h2 (fun d hd=>hG d (qj _ hd)) (by rw[py]at hm;omega) hr hend;obtain⟨tl,e1,-⟩:=xD hA (jI (show jD (jN el port c) _=0 from h2)).1 (hG c (by simp)) (r:=[]) rfl;obtain⟨-,-,e2⟩:=xD hA h1 (hG a nG) (r:=⟨4,⟨#[59]⟩⟩::(toks (kO el (c::l))++r)) ((kg _ _ _).trans rfl);rw[vC,pZ,kD];rw[vC]at ih e2;show mv el' b (m+1) acc (toks (pv el a)++(⟨4,⟨#[59]⟩⟩::(toks (pv el c)++(l.flatMap fun d=>⟨4,⟨#[59]⟩⟩::toks (pv el d)))++r))=_
  rw[lP,mv,e2];show (if (!jq ⟨#[59]⟩ (⟨4,⟨#[59]⟩⟩::_)||(b&&!ju 1 (toks (pv el c)++_++r)))=true then _ else _)=_
  have hk:ju 1 (toks (pv el c)++(l.flatMap fun d=>⟨4,⟨#[59]⟩⟩::toks (pv el d))++r)=true:=by rw[e1];rfl
  rw[kg,hk,iV (by cases b<;>decide),ry,ih,kD];rfl
theorem Bd (hA:pw el el') {k:Nat} {l:List iO} (hE:nN el false l=0) (hG:∀d∈l,Kx el d.er) (hl:l.length<=256) {r:List Tk} (h1:jq ⟨#[118,97,114]⟩ r=false) (h2:ju 1 r=false) :
  oG el' (toks (nr el k l)++r)=some (l.map iO.er,r):=by
 unfold nr;cases l with
 |nil=>
  show oG el' r=_
  unfold oG;rw[h1,iV iI];rfl
 |cons a l=>
 rw[iV (by simp),sv,pd,jT,iN,lK,po,lP,kD];unfold oG;rw[jk,iG iI,ry];show (mv el' true 256 [] (toks (kO el (a::l))++⟨4,⟨#[59]⟩⟩::r)).bind _=_
 rw[vK hA l a [] 256 (⟨4,⟨#[59]⟩⟩::r) hE hG hl ((kg _ _ _).trans rfl) (by rw[kg,ry,h2];rfl)];show (iF [⟨#[59]⟩] (⟨4,⟨#[59]⟩⟩::r)).bind _=_
 rw[lJ [59] r];rfl
end
theorem Ce (a:yB):∀l:List yB,toks (Bo (a::l))=⟨1,a⟩::l.flatMap fun s=>[⟨4,⟨#[44]⟩⟩,⟨1,s⟩]
 |[]=>rfl
 |b::l=>by
  have ih:=Ce b l;unfold Bo at ih⊢;rw[mJ,mJ,mq,iN,iN];show toks [rM a]++toks qR++toks (mq qR ((b::l).map fun s=>[rM s]))=_
  rw[ih];rfl
theorem BF:∀(l:List yB) (a:yB) (acc:List yB) (m:Nat) (r:List Tk),(a::l).length<=m->jq ⟨#[44]⟩ r=false->nR m acc (toks (Bo (a::l))++r)=some (acc++a::l,r)
 |[],a,acc,m,r,hm,hr=>by
  obtain⟨m,rfl⟩:∃j,m=j+1:=⟨m-1,by rw[py]at hm;omega⟩;rw[Ce];show nR (m+1) acc (⟨1,a⟩::r)=_
  rw[nR];show (if jq ⟨#[44]⟩ r=true then _ else _)=_
  rw[hr,iV iI]
 |b::l,a,acc,m,r,hm,hr=>by
  obtain⟨m,rfl⟩:∃j,m=j+1:=⟨m-1,by rw[py]at hm;omega⟩;have ih:=BF l b (acc++[a]) m r (by rw[py]at hm;omega) hr;rw[Ce]at ih⊢;show nR (m+1) acc (⟨1,a⟩::⟨4,⟨#[44]⟩⟩::⟨1,b⟩::((l.flatMap fun s=>[⟨4,⟨#[44]⟩⟩,⟨1,s⟩])++r))=_
  rw[nR];show (if jq ⟨#[44]⟩ (⟨4,⟨#[44]⟩⟩::_)=true then nR m (acc++[a]) (⟨1,b⟩::_) else _)=_
  rw[kg,iG iI];rw[lP]at ih;rw[ih,kD];rfl
section
variable {el el':List iW}
theorem yY (hA:pw el el') {x:Tx} (hE:qk el x=0) (hX:AX el x.er) {r:List Tk} (hr:tE r) {k:Nat} (hk:12000<=k):jg el' k (toks (kX el x.er)++r)=some (x.er,r):=by
 obtain⟨o,j⟩:=Ki hE;rw[zg]at j;exact (Gf hA.al x.er o hX).e r hr k iu
theorem Ot (hA:pw el el') {j:Nat} {q:oX} (hE:rN el q=0) (hX:AX el q.right.er) (r:List Tk) {k:Nat} (hk:12000<=k) :
  Lm el' k (toks (zj el j q)++r)=some (q.er,r)/\(ju 1 (toks (zj el j q)++r)||jq ⟨#[40]⟩ (toks (zj el j q)++r))=true/\jq ⟨#[97,117,116,111,109,97,116,111,110]⟩ (toks (zj el j q)++r)=false:=by
 obtain⟨h1,U,h3,h4,-⟩:=Fz hE;have R:=yY hA h4 hX (AN (t:=⟨4,⟨#[59]⟩⟩) (by decide +kernel) r) hk;obtain⟨⟨lA,lc,I⟩,x⟩:=q;simp only[]at h1 U h3 R;have hp:toks (zj el j ⟨⟨lA,lc,I⟩,x⟩)++r=toks (vU I)++⟨4,⟨#[61]⟩⟩::(toks (kX el x.er)++⟨4,⟨#[59]⟩⟩::r):=by
  unfold zj;rw[sv,iN,jT,lK,jT,iN,lK,po];simp
 rw[hp];have o:∀l:List yB,(iF [⟨#[61]⟩] (⟨4,⟨#[61]⟩⟩::(toks (kX el x.er)++⟨4,⟨#[59]⟩⟩::r))).bind (fun (_,r)=>(jg el' k r).bind fun (x,r)=>(iF [⟨#[59]⟩] r).bind fun (_,r)=>some ((⟨l,x⟩:En),r))=some (⟨l,x.er⟩,r):=fun l=>by
  rw[lJ [61]];show (jg el' k (toks (kX el x.er)++⟨4,⟨#[59]⟩⟩::r)).bind _=_
  rw[R];show (iF [⟨#[59]⟩] (⟨4,⟨#[59]⟩⟩::r)).bind _=_
  rw[lJ [59] r];rfl
 cases I with
 |nil=>simp at h1
 |cons a l=>
 unfold vU;by_cases J:1<(a::l).length
 ·rw[iG J,lK,iN,lK,po,lP,kD]
  refine⟨?_,by rw[kg];simp,(kg _ _ _).trans rfl⟩;unfold Lm;rw[kg,iG iI,ry];show ((nR 64 [] (toks (Bo (a::l))++⟨4,⟨#[41]⟩⟩::(⟨4,⟨#[61]⟩⟩::(toks (kX el x.er)++⟨4,⟨#[59]⟩⟩::r)))).bind _).bind _=_
  rw[BF l a [] 64 _ U ((kg _ _ _).trans rfl)];show ((iF [⟨#[41]⟩] (⟨4,⟨#[41]⟩⟩::_)).bind _).bind _=_
  rw[lJ [41]];exact o (a::l)
 rw[iV J];obtain rfl:l=[]:=by cases l with | nil=>rfl | cons b l=>simp at J
 refine⟨?_,rfl,rfl⟩;show Lm el' k (⟨1,a⟩::⟨4,⟨#[61]⟩⟩::(toks (kX el x.er)++⟨4,⟨#[59]⟩⟩::r))=_
 unfold Lm;rw[uy,iV iI];exact o [a]
def ma.nm (nms:List yB) (t:ma):wo:=⟨t.cond.er,t.res,nms.getD t.dst.toNat ⟨#[]⟩⟩
theorem CD (hA:pw el el') {j:Nat} {wd:List UInt8} {nms:List yB} {k:Nat} (hk:12000<=k):∀(l:List ma) (acc:List wo) (m:Nat) (r:List Tk),(∀t∈l,qk el t.cond=0/\AX el t.cond.er)->l<=m->jq ⟨wd.toArray⟩ r=false ->
  pD el' k ⟨wd.toArray⟩ m acc (toks (sk el j wd nms l)++r)=some (acc++l.map (ma.nm nms),r)
 |[],acc,m,r,_,_,hr=>by
  show pD el' k ⟨wd.toArray⟩ m acc r=_
  unfold pD;rw[hr,iV iI,tW,oV]
 |t::l,acc,m,r,hE,hm,hr=>by
  obtain⟨m,rfl⟩:∃j,m=j+1:=⟨m-1,by rw[py]at hm;omega⟩;have ih:=CD hA (j:=j) (nms:=nms) hk l (acc++[ma.nm nms t]) m r (fun x hx=>hE x (qj _ hx)) (by rw[py]at hm;omega) hr;obtain⟨h1,h2⟩:=hE t nG;have hp:toks (sk el j wd nms (t::l))++r=⟨3,⟨wd.toArray⟩⟩::(toks (kX el t.cond.er)++toks [Aj t.res]++⟨1,nms.getD t.dst.toNat ⟨#[]⟩⟩::⟨4,⟨#[59]⟩⟩::(toks (sk el j wd nms l)++r)):=by
   unfold sk;rw[pZ,iN];show toks (On el j wd nms t)++_++r=_
   unfold On;rw[sv,pd,jT,iN,jT,show ∀q:List Pc,Aj t.res::q=[Aj t.res]++q from fun _=>rfl,iN,jT,um,lK,po];simp
  rw[hp];unfold pD;rw[jk,iG (by simp),ry];have o:(pV (⟨1,nms.getD t.dst.toNat ⟨#[]⟩⟩::⟨4,⟨#[59]⟩⟩::(toks (sk el j wd nms l)++r))).bind (fun (s,r)=>(iF [⟨#[59]⟩] r).bind fun (_,r)=>pD el' k ⟨wd.toArray⟩ m (acc++[⟨t.cond.er,t.res,s⟩]) r)=some (acc++(t::l).map (ma.nm nms),r):=by
   show (iF [⟨#[59]⟩] (⟨4,⟨#[59]⟩⟩::_)).bind _=_
   rw[lJ [59]];show pD el' k ⟨wd.toArray⟩ m (acc++[ma.nm nms t]) (toks (sk el j wd nms l)++r)=_
   rw[ih,kD];rfl
  cases hres:t.res with
  |true=>
   rw[hres]at o;show (jg el' k (toks (kX el t.cond.er)++[⟨3,⟨#[99,111,110,116,105,110,117,101]⟩⟩]++_)).bind _=_
   rw[kD,lP,sb,yY hA h1 h2 (AN (t:=⟨3,⟨#[99,111,110,116,105,110,117,101]⟩⟩) (by decide +kernel) _) hk];show Option.bind (if jq ⟨#[99,111,110,116,105,110,117,101]⟩ (⟨3,⟨#[99,111,110,116,105,110,117,101]⟩⟩::_)=true then some (true,_) else _) _=_
   rw[jk,iG iI];exact o
  |false=>
  rw[hres]at o;show (jg el' k (toks (kX el t.cond.er)++[⟨3,⟨#[116,104,101,110]⟩⟩]++_)).bind _=_
  rw[kD,lP,sb,yY hA h1 h2 (AN (t:=⟨3,⟨#[116,104,101,110]⟩⟩) (by decide +kernel) _) hk];show Option.bind (if jq ⟨#[99,111,110,116,105,110,117,101]⟩ (⟨3,⟨#[116,104,101,110]⟩⟩::_)=true then some (true,_) else (iF [⟨#[116,104,101,110]⟩] (⟨3,⟨#[116,104,101,110]⟩⟩::_)).bind _) _=_
  rw[jk,iV iI,uk [116,104,101,110]];exact o
theorem Ir (hA:pw el el') {j m:Nat} {as_:List BU}:∀(l:List oX) (acc:List En) (r:List Tk) (k:Nat),iw (rN el) l=0->(∀q∈l,AX el q.right.er)->acc.length+l<=256->12000+l<=k ->
  mu el' k m acc as_ (toks (l.flatMap (zj el j))++r)=mu el' (k-l) m (acc++l.map oX.er) as_ r
 |[],acc,r,k,_,_,_,_=>by rw[tW,oV];rfl
 |q::l,acc,r,k,hE,hX,hl,hk=>by
  rw[iw]at hE;obtain⟨h1,h2⟩:=jI hE;rw[py]at hl hk;obtain⟨k,rfl⟩:∃i,k=i+1:=⟨k-1,iu⟩;have ih:=Ir hA (j:=j) (m:=m) (as_:=as_) l (acc++[q.er]) r k h2 (fun x hx=>hX x (qj _ hx)) (by rw[mo,xH];omega) iu;obtain⟨e1,e2,e3⟩:=Ot hA (j:=j) h1 (hX q nG) (toks (l.flatMap (zj el j))++r) (k:=k) iu;rw[pZ,iN,kD,mu,e3,iV iI,e2,iG rfl,iV iu,e1];show mu el' k m (acc++[q.er]) as_ (toks (l.flatMap (zj el j))++r)=_
  rw[ih,kD,py,show k+1-(l.length+1)=k-l.length by omega];rfl
theorem Iz {j m:Nat} {es:List En} (h0:m≠0):∀(l:List AuT) (acc:List BU) (r:List Tk) (K k:Nat),(∀a∈l,∃tl,toks (CN el j a)=⟨3,⟨#[97,117,116,111,109,97,116,111,110]⟩⟩::tl/\∀r k,K<=k->pq el' k m [] (tl++r)=some (a.er,r))->acc.length+l<=8->K+l<=k ->
  mu el' k m es acc (toks (vN el j l)++r)=mu el' (k-l) m es (acc++AuT.kv l) r
 |[],acc,r,K,k,_,_,_=>by rw[vN,AuT.kv,oV];rfl
 |a::l,acc,r,K,k,hE,hl,hk=>by
  rw[py]at hl hk;obtain⟨k,rfl⟩:∃i,k=i+1:=⟨k-1,iu⟩;have ih:=Iz (j:=j) (es:=es) h0 l (acc++[a.er]) r K k (fun x hx=>hE x (qj _ hx)) (by rw[mo,xH];omega) iu;obtain⟨tl,e1,e2⟩:=hE a nG;rw[vN,iN,e1,kD,lP,mu,jk,iG iI,iV iu,ry,e2 _ k iu];show mu el' k m es (acc++[a.er]) (toks (vN el j l)++r)=_
  rw[ih,kD,py,show k+1-(l.length+1)=k-l.length by omega,AuT.kv];rfl
def StT.sn (nms:List yB):StT->Ci
 |.mk n l e _ _ a u v=>⟨n,l.l.map iO.er,e.l.map oX.er,AuT.kv a,u.l.map (ma.nm nms),v.l.map (ma.nm nms)⟩
theorem E8 {nms:List yB}:∀{l:List ma},(∀t∈l,SI el nms t.er)->(l.map (ma.nm nms)).mapM (yp nms)=some (l.map ma.er)
 |[],_=>rfl
 |t::l,h=>by
  obtain⟨-,s,j,h2,h3⟩:=h t nG;have h3:t.dst=(j:Int):=h3;obtain⟨i,h4,h5⟩:=Kz h2;have hs:nms.getD t.dst.toNat ⟨#[]⟩=s:=by
   rw[h3,wC,show ((j:Nat):Int).toNat=i by omega,h5];rfl
  rw[mJ,Cx,E8 fun x o=>h x (qj _ o)];unfold yp ma.nm;simp only[hs,h2];show some ((⟨t.cond.er,(j:Int),t.res⟩:Qb)::l.map ma.er)=some (ma.er t::l.map ma.er)
  rw[<- h3];rfl
theorem Oe {nms:List yB}:∀{l:List StT},Fs el nms (StT.kv l)->(l.map (StT.sn nms)).mapM (wW nms)=some (StT.kv l)
 |[],_=>by rw[StT.kv];rfl
 |.mk n lo e A c a u v::l,h=>by
  rw[StT.kv,Fs]at h;obtain⟨h1,h2⟩:=h;rw[StT.er,P3]at h1;obtain⟨-,-,-,h3,h4⟩:=h1;rw[mJ,Cx,Oe h2];unfold wW StT.sn;have e1:=E8 (el:=el) (nms:=nms) (l:=u.l) fun t ht=>h3 _ (xL ht)
  have e2:=E8 (el:=el) (nms:=nms) (l:=v.l) fun t ht=>h4 _ (xL ht)
  simp only[e1,e2];rw[StT.kv,StT.er];rfl
theorem EZ:∀l:List StT,(StT.kv l).map F5.nm=l.map StT.name
 |[]=>rfl
 |.mk n lo e A c a u v::l=>by rw[StT.kv,mJ,mJ,EZ l,StT.er];rfl
theorem FU {nms:List yB}:∀{l:List StT},Fs el nms (StT.kv l)->∀x∈l,P3 el nms x.er
 |[],_,x,h=>by cases h
 |y::l,hg,x,h=>by
  rw[StT.kv,Fs]at hg;rcases uW.1 h with h | h
  ·rw[h];exact hg.1
  exact FU hg.2 x h
theorem EG:∀{l:List AuT},tZ el (AuT.kv l)->∀x∈l,Ry el x.er
 |[],_,x,h=>by cases h
 |y::l,hg,x,h=>by
  rw[AuT.kv,tZ]at hg;rcases uW.1 h with h | h
  ·rw[h];exact hg.1
  exact EG hg.2 x h
structure RP (r:List Tk):Prop where
 a:jq ⟨#[97,117,116,111,109,97,116,111,110]⟩ r=false
 k:ju 1 r=false
 p:jq ⟨#[40]⟩ r=false
theorem Ke (hA:pw el el') {j m K:Nat} {ql:List oX} {al:List AuT} (hE:iw (rN el) ql=0) (hX:∀q∈ql,AX el q.right.er) (hq:ql.length<=256) (hl:al.length<=8) (h0:m≠0\/al=[])
  (ha:∀a∈al,∃tl,toks (CN el j a)=⟨3,⟨#[97,117,116,111,109,97,116,111,110]⟩⟩::tl/\∀r k,K<=k->pq el' k m [] (tl++r)=some (a.er,r)) {r:List Tk} (hr:RP r) {k:Nat} (hk:12300<=k) (hK:K+300<=k) :
  mu el' k m [] [] (toks (qJ el j ql al)++r)=some ((ql.map oX.er,AuT.kv al),r):=by
 unfold qJ;rw[iN,kD,Ir hA ql [] _ k hE hX (by simp;omega) iu];have I:mu el' (k-ql) m ([]++ql.map oX.er) [] (toks (vN el j al)++r)=mu el' (k-ql-al) m ([]++ql.map oX.er) ([]++AuT.kv al) r:=by
  rcases h0 with h0 | rfl
  ·exact Iz h0 al [] r K _ ha (by simp;omega) iu
  rw[vN,AuT.kv];rfl
 rw[I];obtain⟨i,o⟩:∃i,k-ql.length-al.length=i+1:=⟨k-ql-al-1,iu⟩;rw[o,mu,hr.a,iV iI,hr.k,hr.p,iV iI];rfl
theorem BJ {j:Nat} {wd:List UInt8} {nms:List yB} {P:List Tk->Prop} (l:List ma) {r:List Tk} (h1:∀tl,P (⟨3,⟨wd.toArray⟩⟩::tl)) (h2:P r):P (toks (sk el j wd nms l)++r):=by
 cases l with
 |nil=>exact h2
 |cons t l=>
 unfold sk;rw[pZ,iN];unfold On;rw[sv,pd];exact h1 _
theorem Hh (hA:pw el el') {j m K:Nat} {nms:List yB} (hn:True):∀(l:List StT) (acc:List Ci) (r:List Tk) (k:Nat),(∀x∈l,QD el nms.length x/\P3 el nms x.er/\x.locals.l.length<=256/\x.unl.l.length<=4/\x.unt.l.length<=4) ->
  (∀x∈l,∀r k,RP r->K<=k->mu el' k (m-1) [] [] (toks (qJ el (j+2) x.eqs.l x.autos)++r)=some ((x.eqs.l.map oX.er,AuT.kv x.autos),r)) ->
  acc.length+l<=8->K+l+1<=k->12000+l<=k ->
  pq el' k m acc (toks (wi el j nms l)++⟨3,⟨#[101,110,100]⟩⟩::r)=((acc++l.map (StT.sn nms)).mapM (wW ((acc++l.map (StT.sn nms)).map Ci.name))).bind fun L=>some (.mk L,r)
 |[],acc,r,k,_,_,_,hk,_=>by
  obtain⟨k,rfl⟩:∃i,k=i+1:=⟨k-1,iu⟩;rw[wi,po,sb,tW,oV,pq,jk,iV iI];rw[uk [101,110,100] r];rfl
 |.mk n lo e A c a u v::l,acc,r,k,hs,hb,hl,hk,hk2=>by
  rw[py]at hl hk hk2;obtain⟨k,rfl⟩:∃i,k=i+1:=⟨k-1,iu⟩;obtain⟨ok,hg,q1,q2,q3⟩:=hs _ nG;have hb1:=hb _ nG;have ih:=Hh hA (j:=j) (m:=m) (K:=K) hn l (acc++[StT.sn nms (.mk n lo e A c a u v)]) r k (fun x hx=>hs x (qj _ hx)) (fun x hx=>hb x (qj _ hx)) (by rw[mo,xH];omega) iu iu;obtain⟨o1,o2,o3,o4,o5⟩:=ok;rw[StT.er,P3]at hg;obtain⟨p1,p2,p3,p4,p5⟩:=hg;simp only[StT.name,StT.locals,StT.unl,StT.unt,StT.eqs,StT.autos]at o1 o2 o3 o4 o5 hb1 q1 q2 q3;have hp:toks (wi el j nms (.mk n lo e A c a u v::l))++⟨3,⟨#[101,110,100]⟩⟩::r=⟨3,⟨#[115,116,97,116,101]⟩⟩::⟨1,n⟩::(toks (nr el (j+2) lo.l)++(toks (sk el (j+2) [117,110,108,101,115,115] nms u.l)++(⟨3,⟨#[100,111]⟩⟩::(toks (qJ el (j+2) e.l a)++(toks (sk el (j+2) [117,110,116,105,108] nms v.l)++(⟨3,⟨#[100,111,110,101]⟩⟩::(toks (wi el j nms l)++⟨3,⟨#[101,110,100]⟩⟩::r))))))):=by
   rw[wi,IC];unfold qJ;simp only[iN,sv,pd,jT,um,po,kD,lP,sb]
  rw[hp,pq,jk,iG iI,iV iu,ry];show (oG el' (toks (nr el (j+2) lo.l)++_)).bind _=_
  rw[Bd hA o2 (fun d J=>p1 _ (xL J)) q1
   (BJ (P:=fun r=>jq ⟨#[118,97,114]⟩ r=false) u.l (fun I=>(jk _ _ _).trans rfl) ((jk _ _ _).trans rfl))
   (BJ (P:=fun r=>ju 1 r=false) u.l (fun I=>rfl) rfl)]
  show (pD el' k ⟨#[117,110,108,101,115,115]⟩ 4 [] (toks (sk el (j+2) [117,110,108,101,115,115] nms u.l)++_)).bind _=_
  rw[CD hA (wd:=[117,110,108,101,115,115]) iu u.l [] 4 _ (fun t o=>⟨(o4 t o).1,(p4 _ (xL o)).1⟩) q2 ((jk _ _ _).trans rfl)];show (iF [⟨#[100,111]⟩] (⟨3,⟨#[100,111]⟩⟩::_)).bind _=_
  rw[uk [100,111]];show (mu el' k (m-1) [] [] (toks (qJ el (j+2) e.l a)++_)).bind _=_
  rw[hb1 _ k ⟨BJ (P:=fun r=>jq ⟨#[97,117,116,111,109,97,116,111,110]⟩ r=false) v.l (fun I=>(jk _ _ _).trans rfl) ((jk _ _ _).trans rfl),BJ (P:=fun r=>ju 1 r=false) v.l (fun I=>rfl) rfl,BJ (P:=fun r=>jq ⟨#[40]⟩ r=false) v.l (fun I=>(jk _ _ _).trans rfl) ((jk _ _ _).trans rfl)⟩ iu];show (pD el' k ⟨#[117,110,116,105,108]⟩ 4 [] (toks (sk el (j+2) [117,110,116,105,108] nms v.l)++_)).bind _=_
  rw[CD hA (wd:=[117,110,116,105,108]) iu v.l [] 4 _ (fun t o=>⟨(o5 t o).1,(p5 _ (xL o)).1⟩) q3 ((jk _ _ _).trans rfl)];show (iF [⟨#[100,111,110,101]⟩] (⟨3,⟨#[100,111,110,101]⟩⟩::_)).bind _=_
  rw[uk [100,111,110,101]];show pq el' k m (acc++[StT.sn nms (.mk n lo e A c a u v)]) _=_
  rw[ih,kD];rfl
end
theorem O6 {el:List iW} {n d:Nat} {x:StT} (h:AM el n d x=0):x.locals.l.length<=256/\x.unl.l.length<=4/\x.unt.l.length<=4:=by
 obtain⟨R,J,eq,A,c,au,I,o⟩:=x;rw[IY]at h;obtain⟨U,h⟩:=jI h;obtain⟨j,h⟩:=jI h;have j:=nJ iI j;simp only[mT,decide_eq_true_eq]at j;exact⟨by show J.l.length<=256;omega,by show I.l.length<=4;omega,by show o.l.length<=4;omega⟩
section
variable {el el':List iW}
theorem Kk (hA:pw el el'):∀(n d j:Nat),d+n=3->∀a:AuT,rK el d a=0->Ry el a.er ->
  ∃tl,toks (CN el j a)=⟨3,⟨#[97,117,116,111,109,97,116,111,110]⟩⟩::tl/\∀r k,12000+400*n<=k->pq el' k n [] (tl++r)=some (a.er,r)
 |0,d,j,hd,.mk A c l,hE,hG=>by
  rw[yt]at hE;have h1:=nJ iI (jI hE).1;simp only[decide_eq_true_eq]at h1;omega
 |n+1,d,j,hd,.mk A c l,hE,hG=>by
  rw[yt]at hE;obtain⟨h1,h⟩:=jI hE;obtain⟨h2,h⟩:=jI h;obtain⟨h3,h4⟩:=jI h;have h3:=nJ iI h3;simp only[decide_eq_true_eq]at h3;rw[AuT.er,Ry,EZ]at hG;refine⟨toks (wi el j (l.map StT.name) l)++[⟨3,⟨#[101,110,100]⟩⟩],?_,fun r k hk=>?_⟩
  ·rw[CN,iN,iN,sv,sv]
   rfl
  rw[kD];show pq el' k (n+1) [] (toks (wi el j (l.map StT.name) l)++⟨3,⟨#[101,110,100]⟩⟩::r)=_
  have hl8:l.length<=8:=iu;have e1:12300+400*n+l+1<=k:=iu;have e2:12000+l<=k:=iu;rw[Hh hA (K:=12300+400*n) trivial l [] r k (fun x hx=>?_) (fun x hx r k hr hk=>?_) (by simpa using hl8) e1 e2]
  ·rw[sb,show (l.map (StT.sn (l.map StT.name))).map Ci.name=l.map StT.name from ?_,Oe hG]
   ·rw[AuT.er];rfl
   rw[xZ];exact IL fun x _=>by cases x;rfl
  ·have hx9:=jd h4 x hx
   obtain⟨g1,g2,g3⟩:=O6 hx9;exact⟨by rw[pE];exact (wP hx9).1,FU hG x hx,g1,g2,g3⟩
  have hx9:=jd h4 x hx;obtain⟨-,-,q1,q2,q3,q4⟩:=wP hx9;have hg:=FU hG x hx;obtain⟨nm,lo,e,A',c',au,u,v⟩:=x;rw[StT.er,P3]at hg;obtain⟨-,p2,p3,-,-⟩:=hg;have f1:=jW (Nat.le_add_right _ _) hk;have f2:12000+400*n+300<=k:=by rw[Nat.add_right_comm];exact hk
  refine Ke hA (m:=n) (K:=12000+400*n) q1 (fun q hq=>p2 _ (xL hq)) q3 q4 ?_ (fun a ha=>?_) hr f1 f2
  ·cases n with
   |zero=>
    refine .inr ?_;cases au with
    |nil=>rfl
    |cons a au=>
    have:=jd q2 a (nG);obtain⟨A9,c9,l9⟩:=a;rw[yt]at this;have h9:=nJ iI (jI this).1;simp only[decide_eq_true_eq]at h9;omega
   |succ n=>exact .inl iu
  exact Kk hA n (d+1) (j+2) iu a (jd q2 a ha) (EG p3 a ha)
theorem Jb (kw:List UInt8) (x:Tx) (r:List Tk):toks (kI el kw x)++r=⟨3,⟨kw.toArray⟩⟩::(toks (kX el x.er)++⟨4,⟨#[59]⟩⟩::r):=by
 unfold kI;rw[sv,pd,jT,iN,lK,po,lP,kD];rfl
theorem Hw (hA:pw el el') {k:Nat} (hk:12000<=k):∀(l:List Tx) (as_ acc:List Ex) (f:Nat) (r:List Tk),iw (qk el) l=0->(∀x∈l,AX el x.er)->acc.length+l<=8->l<=f->jq ⟨#[97,115,115,117,109,101]⟩ r=false->jq ⟨#[101,110,115,117,114,101]⟩ r=false ->
  ox el' k f as_ acc (toks (l.flatMap (kI el [101,110,115,117,114,101]))++r)=some ((as_,acc++l.map Tx.er),r)
 |[],as_,acc,f,r,_,_,_,_,h1,h2=>by
  show ox el' k f as_ acc r=_
  cases f with
  |zero=>rw[ox,h1,h2,iV iI,tW,oV]
  |succ f=>rw[ox,h1,h2,iV iI,iV iI,tW,oV]
 |x::l,as_,acc,f,r,hE,hX,hl,hf,h1,h2=>by
  rw[iw]at hE;obtain⟨g1,g2⟩:=jI hE;rw[py]at hl hf;obtain⟨f,rfl⟩:∃j,f=j+1:=⟨f-1,iu⟩;have ih:=Hw hA hk l as_ (acc++[x.er]) f r g2 (fun y hy=>hX y (qj _ hy)) (by rw[mo,xH];omega) iu h1 h2;rw[pZ,iN,kD,Jb,ox,jk,iV iI,jk,iG iI,iV iu,ry];rw[yY hA g1 (hX x nG) (AN (t:=⟨4,⟨#[59]⟩⟩) (by decide +kernel) _) hk];show (iF [⟨#[59]⟩] (⟨4,⟨#[59]⟩⟩::_)).bind _=_
  rw[lJ [59]];show ox el' k f as_ (acc++[x.er]) _=_
  rw[ih,kD];rfl
theorem G6 (hA:pw el el') {k:Nat} (hk:12000<=k) {en:List Tx} (hE2:iw (qk el) en=0) (hX2:∀x∈en,AX el x.er) (hl2:en.length<=8) {r:List Tk} (h1:jq ⟨#[97,115,115,117,109,101]⟩ r=false) (h2:jq ⟨#[101,110,115,117,114,101]⟩ r=false) :
  ∀(l:List Tx) (acc:List Ex) (f:Nat),iw (qk el) l=0->(∀x∈l,AX el x.er)->acc.length+l<=8->l+en<=f ->
  ox el' k f acc [] (toks (l.flatMap (kI el [97,115,115,117,109,101]))++(toks (en.flatMap (kI el [101,110,115,117,114,101]))++r))=some ((acc++l.map Tx.er,en.map Tx.er),r)
 |[],acc,f,_,_,_,hf=>by
  show ox el' k f acc [] (toks (en.flatMap (kI el [101,110,115,117,114,101]))++r)=_
  rw[Hw hA hk en acc [] f r hE2 hX2 (by simpa using hl2) (by simpa using hf) h1 h2,tW,oV,sb]
 |x::l,acc,f,hE,hX,hl,hf=>by
  rw[iw]at hE;obtain⟨g1,g2⟩:=jI hE;rw[py]at hl hf;obtain⟨f,rfl⟩:∃j,f=j+1:=⟨f-1,iu⟩;have ih:=G6 hA hk hE2 hX2 hl2 h1 h2 l (acc++[x.er]) f g2 (fun y hy=>hX y (qj _ hy)) (by rw[mo,xH];omega) iu;rw[pZ,iN,kD,Jb,ox,jk,iG iI,iV iu,ry];rw[yY hA g1 (hX x nG) (AN (t:=⟨4,⟨#[59]⟩⟩) (by decide +kernel) _) hk];show (iF [⟨#[59]⟩] (⟨4,⟨#[59]⟩⟩::_)).bind _=_
  rw[lJ [59]];show ox el' k f (acc++[x.er]) [] _=_
  rw[ih,kD];rfl
theorem Kh {kw:List UInt8} {P:List Tk->Prop} (l:List Tx) {r:List Tk} (h1:∀tl,P (⟨3,⟨kw.toArray⟩⟩::tl)) (h2:P r):P (toks (l.flatMap (kI el kw))++r):=by
 cases l with
 |nil=>exact h2
 |cons t l=>
 rw[pZ,iN,kD,Jb];exact h1 _
theorem Mq {l:List AuT} (h:tZ el (l.map AuT.er)):tZ el (AuT.kv l)/\l.map AuT.er=AuT.kv l:=by
 have:l.map AuT.er=AuT.kv l:=by
  induction l with
  |nil=>rw[AuT.kv];rfl
  |cons a l ih=>rw[mJ,tZ]at h;rw[mJ,AuT.kv,ih h.2]
 exact⟨this▸h,this⟩
theorem Ej (hA:pw el el') {k:Nat} (hk:14000<=k) {n:nh} (hE:mY el n=0) (hG:QB el n.er):∃tl,toks (qo el n)=⟨3,⟨#[110,111,100,101]⟩⟩::tl/\∀r,uO el' k (tl++r)=some (n.er,r):=by
 obtain⟨k1,k2,k3,k4,k5,k6,k7,k8,k9,a',a_,a8,a7,a6,a1,U⟩:=yW hE;obtain⟨nn,⟨iA,ic,o⟩,⟨oA,oc,ol⟩,⟨lA,lc,ll⟩,⟨qA,qc,ql⟩,⟨aA,ac,al⟩,⟨sA,sc,I⟩,⟨ae,ad,R⟩⟩:=n;simp only[]at k1 k2 k3 k4 k5 k6 k7 k8 k9 a' a_ a8 a7 a6 a1 U;obtain⟨g1,g2,g3,g4,g5,g6,g7⟩:=hG;simp only[nh.er]at g1 g2 g3 g4 g5 g6 g7;obtain⟨g5,ab⟩:=Mq g5;have hp:toks (qo el ⟨nn,⟨iA,ic,o⟩,⟨oA,oc,ol⟩,⟨lA,lc,ll⟩,⟨qA,qc,ql⟩,⟨aA,ac,al⟩,⟨sA,sc,I⟩,⟨ae,ad,R⟩⟩)=⟨3,⟨#[110,111,100,101]⟩⟩::⟨1,nn⟩::⟨4,⟨#[40]⟩⟩::(toks (kO el o)++⟨4,⟨#[41]⟩⟩::⟨3,⟨#[114,101,116,117,114,110,115]⟩⟩::⟨4,⟨#[40]⟩⟩::(toks (kO el ol)++⟨4,⟨#[41]⟩⟩::(toks (nr el 1 ll)++(toks (I.flatMap (kI el [97,115,115,117,109,101]))++(toks (R.flatMap (kI el [101,110,115,117,114,101]))++⟨3,⟨#[108,101,116]⟩⟩::(toks (qJ el 1 ql al)++[⟨3,⟨#[116,101,108]⟩⟩])))))):=by
  unfold qo ya;simp only[iN,sv,pd,jT,um,lK,po,kD,lP,sb]
 refine⟨_,hp,fun r=>?_⟩;simp only[lP,kD,sb];unfold uO;show (iF [⟨#[40]⟩] (⟨4,⟨#[40]⟩⟩::_)).bind _=_
 rw[lJ [40]];have aa:∀j,(if jq ⟨#[41]⟩ (toks (kO el o)++⟨4,⟨#[41]⟩⟩::j)=true then some ([],toks (kO el o)++⟨4,⟨#[41]⟩⟩::j) else mv el' false 64 [] (toks (kO el o)++⟨4,⟨#[41]⟩⟩::j))=some (o.map iO.er,⟨4,⟨#[41]⟩⟩::j):=fun j=>by
  cases o with
  |nil=>
   show (if jq ⟨#[41]⟩ (⟨4,⟨#[41]⟩⟩::j)=true then some ([],⟨4,⟨#[41]⟩⟩::j) else _)=_
   rw[kg,iG iI];rfl
  |cons a l=>
  have J:=xD hA (jI (show jD (jN el true a) _=0 from k2)).1 (g1 _ (xL nG)) (r:=[]) rfl;obtain⟨tl,e1,-⟩:=J;rw[iV (by rw[vC,e1];exact yE),vK hA (b:=false) l a [] 64 (⟨4,⟨#[41]⟩⟩::j) k2 (fun d J=>g1 _ (xL J)) k5 ((kg _ _ _).trans rfl) (by rw[kg];rfl)];rfl
 show Option.bind (if jq ⟨#[41]⟩ (toks (kO el o)++⟨4,⟨#[41]⟩⟩::_)=true then some ([],toks (kO el o)++⟨4,⟨#[41]⟩⟩::_) else mv el' false 64 [] (toks (kO el o)++⟨4,⟨#[41]⟩⟩::_)) _=_
 rw[aa];show (iF [⟨#[41]⟩,⟨#[114,101,116,117,114,110,115]⟩,⟨#[40]⟩] (⟨4,⟨#[41]⟩⟩::⟨3,⟨#[114,101,116,117,114,110,115]⟩⟩::⟨4,⟨#[40]⟩⟩::_)).bind _=_
 have hm:∀j,iF [⟨#[41]⟩,⟨#[114,101,116,117,114,110,115]⟩,⟨#[40]⟩] (⟨4,⟨#[41]⟩⟩::⟨3,⟨#[114,101,116,117,114,110,115]⟩⟩::⟨4,⟨#[40]⟩⟩::j)=some ((),j):=fun j=>by
  unfold iF;rw[kg,iG iI,ry];unfold iF;rw[jk,iG iI,ry];exact lJ [40] j
 rw[hm];show (mv el' false 64 [] (toks (kO el ol)++⟨4,⟨#[41]⟩⟩::_)).bind _=_
 cases ol with
 |nil=>simp at k8
 |cons a l=>
 rw[vK hA (b:=false) l a [] 64 _ k3 (fun d J=>g2 _ (xL J)) k6 ((kg _ _ _).trans rfl) (by rw[kg];rfl)];show (iF [⟨#[41]⟩] (⟨4,⟨#[41]⟩⟩::_)).bind _=_
 rw[lJ [41]];show (oG el' (toks (nr el 1 ll)++_)).bind _=_
 rw[Bd hA k4 (fun d J=>g3 _ (xL J)) k7
  (Kh (P:=fun r=>jq ⟨#[118,97,114]⟩ r=false) I (fun tl=>(jk _ _ _).trans rfl) (Kh (P:=fun r=>jq ⟨#[118,97,114]⟩ r=false) R (fun tl=>(jk _ _ _).trans rfl) ((jk _ _ _).trans rfl)))
  (Kh (P:=fun r=>ju 1 r=false) I (fun tl=>rfl) (Kh (P:=fun r=>ju 1 r=false) R (fun tl=>rfl) rfl))]
 show (ox el' k 17 [] [] (toks (I.flatMap (kI el [97,115,115,117,109,101]))++(toks (R.flatMap (kI el [101,110,115,117,114,101]))++_))).bind _=_
 rw[G6 hA iu a1 (fun x hx=>g7 _ (xL hx)) U ((jk _ _ _).trans rfl) ((jk _ _ _).trans rfl) I [] 17 a7 (fun x hx=>g6 _ (xL hx)) (by simpa using a6) iu];show (iF [⟨#[108,101,116]⟩] (⟨3,⟨#[108,101,116]⟩⟩::_)).bind _=_
 rw[uk [108,101,116]];show (mu el' k 3 [] [] (toks (qJ el 1 ql al)++(⟨3,⟨#[116,101,108]⟩⟩::r))).bind _=_
 rw[Ke hA (K:=12000+400*3) k9 (fun q hq=>g4 _ (xL hq)) a' a8 (.inl iI) (fun a ha=>Kk hA 3 0 1 iu a (jd a_ a ha) (EG g5 a ha)) ⟨(jk _ _ _).trans rfl,rfl,(jk _ _ _).trans rfl⟩ iu iu];show (iF [⟨#[116,101,108]⟩] (⟨3,⟨#[116,101,108]⟩⟩::r)).bind _=_
 rw[uk [116,101,108] r];show some ((⟨nn,o.map iO.er,(a::l).map iO.er,ll.map iO.er,ql.map oX.er,AuT.kv al,I.map Tx.er,R.map Tx.er⟩:D8),r)=_
 rw[<- ab];rfl
theorem BH (hA:pw el el') {k:Nat} (hk:14000<=k):∀(l:List nh) (acc:List D8) (m:Nat),(∀n∈l,mY el n=0/\QB el n.er)->l<=m->mQ el' k m acc (toks (l.flatMap (qo el)))=some (acc++l.map nh.er,[])
 |[],acc,m,_,_=>by
  show mQ el' k m acc []=_
  unfold mQ;show some (acc,[])=_
  rw[tW,oV]
 |n::l,acc,m,h,hm=>by
  obtain⟨m,rfl⟩:∃j,m=j+1:=⟨m-1,by rw[py]at hm;omega⟩;have ih:=BH hA hk l (acc++[n.er]) m (fun x hx=>h x (qj _ hx)) (by rw[py]at hm;omega);obtain⟨tl,e1,e2⟩:=Ej hA hk (h n nG).1 (h n nG).2;rw[pZ,iN,e1,lP];unfold mQ;rw[jk,iG iI,ry];show (uO el' k (tl++_)).bind _=_
  rw[e2];show mQ el' k m (acc++[n.er]) _=_
  rw[ih,kD];rfl
end
theorem zU (a:yB):∀l:List yB,toks (vY (a::l))=⟨1,a⟩::l.flatMap fun s=>[⟨4,⟨#[124]⟩⟩,⟨1,s⟩]
 |[]=>rfl
 |b::l=>by
  have ih:=zU b l;unfold vY at ih⊢;rw[mJ,mJ,mq,iN,iN];show toks [rM a]++toks Jj++toks (mq Jj ((b::l).map fun s=>[rM s]))=_
  rw[ih];rfl
theorem DK:∀(l:List yB) (a:yB) (acc:List yB) (m:Nat) (r:List Tk),(a::l).length<=m->jq ⟨#[124]⟩ r=false->qH m acc (toks (vY (a::l))++r)=some (acc++a::l,r)
 |[],a,acc,m,r,hm,hr=>by
  obtain⟨m,rfl⟩:∃j,m=j+1:=⟨m-1,by rw[py]at hm;omega⟩;rw[zU];show qH (m+1) acc (⟨1,a⟩::r)=_
  rw[qH];show (if jq ⟨#[124]⟩ r=true then _ else _)=_
  rw[hr,iV iI]
 |b::l,a,acc,m,r,hm,hr=>by
  obtain⟨m,rfl⟩:∃j,m=j+1:=⟨m-1,by rw[py]at hm;omega⟩;have ih:=DK l b (acc++[a]) m r (by rw[py]at hm;omega) hr;rw[zU]at ih⊢;show qH (m+1) acc (⟨1,a⟩::⟨4,⟨#[124]⟩⟩::⟨1,b⟩::((l.flatMap fun s=>[⟨4,⟨#[124]⟩⟩,⟨1,s⟩])++r))=_
  rw[qH];show (if jq ⟨#[124]⟩ (⟨4,⟨#[124]⟩⟩::_)=true then qH m (acc++[a]) (⟨1,b⟩::_) else _)=_
  rw[kg,iG iI];rw[lP]at ih;rw[ih,kD];rfl
theorem CE:∀(l:List iW) (acc:List KD) (m:Nat) (r:List Tk),(∀u∈l,oy u=0)->l<=m->jq ⟨#[116,121,112,101]⟩ r=false->mE m acc (toks (l.flatMap sF)++r)=some (acc++l.map iW.er,r)
 |[],acc,m,r,_,_,hr=>by
  show mE m acc r=_
  unfold mE;rw[hr,iV iI,tW,oV]
 |u::l,acc,m,r,h,hm,hr=>by
  obtain⟨m,rfl⟩:∃j,m=j+1:=⟨m-1,by rw[py]at hm;omega⟩;have ih:=CE l (acc++[u.er]) m r (fun x hx=>h x (qj _ hx)) (by rw[py]at hm;omega) hr;obtain⟨-,i2,i3,-⟩:=qm (h u nG);obtain⟨un,⟨uA,uc,ul⟩⟩:=u;simp only[]at i2 i3;cases ul with
  |nil=>simp at i2
  |cons a ul=>
  have hp:toks (((⟨un,⟨uA,uc,a::ul⟩⟩:iW)::l).flatMap sF)++r=⟨3,⟨#[116,121,112,101]⟩⟩::⟨1,un⟩::⟨4,⟨#[61]⟩⟩::(toks (vY (a::ul))++⟨4,⟨#[59]⟩⟩::(toks (l.flatMap sF)++r)):=by
   rw[pZ,iN];unfold sF;rw[sv,pd,jT,um,jT,lK,jT,iN,lK,po];simp
  rw[hp];unfold mE;rw[jk,iG iI,ry];show (iF [⟨#[61]⟩] (⟨4,⟨#[61]⟩⟩::_)).bind _=_
  rw[lJ [61]];show (qH 16 [] (toks (vY (a::ul))++_)).bind _=_
  rw[DK ul a [] 16 _ i3 ((kg _ _ _).trans rfl)];show (iF [⟨#[59]⟩] (⟨4,⟨#[59]⟩⟩::_)).bind _=_
  rw[lJ [59]];show mE m (acc++[iW.er ⟨un,⟨uA,uc,a::ul⟩⟩]) _=_
  rw[ih,kD];rfl
theorem sB (k:Nat) (P:List Pc):(iY (rL k P)).length=2*k+(iY P).length+1:=by
 rw[KB,mo,mo,Pb];rfl
theorem yq {α:Type} {f:α->List Pc} {m:Nat}:∀{l:List α},(∀x∈l,(iY (f x)).length<=m)->(iY (l.flatMap f)).length<=m*l
 |[],_=>by simp[ja]
 |a::l,h=>by
  rw[pZ,iC,mo,py,Nat.mul_add,yr];have h1:=h a nG;have h2:=yq (l:=l) fun x hx=>h x (qj _ hx)
  omega
section
variable {el:List iW}
theorem IF (hT:mL el) {x:Tx} (h:qk el x=0):(iY (kX el x.er)).length<=80000:=by
 obtain⟨o,j⟩:=Ki h;rw[zg]at j;have I:=yU hT _ o;omega
theorem Mj (hT:mL el) {k:Nat} (hk:k<=1000) {q:oX} (h:rN el q=0):(iY (zj el k q)).length<=130000:=by
 obtain⟨J,I,o,j,-⟩:=Fz h;have g1:=KL o iu;have U:=IF hT j;have R:(iY (vU q.left.l)).length<=42002:=by
  unfold vU;split
  ·rw[jl,iC,jl,ja];simp;omega
  omega
 unfold zj;rw[sB,iC,jn,jl,jn,iC,jl,ja];simp;omega
theorem My (hT:mL el) {k:Nat} (hk:k<=1000) {wd:List UInt8} (hw:wd.length<=100) {nms:List yB} (hn:∀s∈nms,s.size<=40) {t:ma} (h:qk el t.cond=0):(iY (On el k wd nms t)).length<=90000:=by
 have I:=IF hT h;have J:(nms.getD t.dst.toNat ⟨#[]⟩).size<=40:=by
  rw[wC];cases hg:nms[t.dst.toNat]? with
  |none=>decide
  |some s=>exact hn s (om hg)
 have o:(iY [Aj t.res]).length<=8:=by
  unfold Aj;split<;>decide
 unfold On;rw[sB,kH,jn,iC,jn,show ∀q:List Pc,Aj t.res::q=[Aj t.res]++q from fun _=>rfl,iC,jn,lQ,jl,ja];have j:(nms.getD t.dst.toNat ⟨#[]⟩).data.toList.length=(nms.getD t.dst.toNat ⟨#[]⟩).size:=jr _;simp only[mo,py,wJ];omega
theorem Dc (hT:mL el) (hN:pB el) {k:Nat} (hk:k<=1000) {l:List iO} (h:nN el false l=0) (hl:l.length<=1000):(iY (nr el k l)).length<=600000:=by
 have g:=qC hT hN h hl;unfold nr;split
 ·rw[ja];simp
 rw[sB,kH,jn,iC,jl,ja];simp;omega
mutual
theorem QK (hT:mL el) (hN:pB el):∀(a:AuT) (d k:Nat),rK el d a=0->k<=100+4*d->(iY (CN el k a)).length<=620000*RR a.er
 |.mk A c l,d,k,h,hk=>by
  rw[rK]at h;obtain⟨h0,h⟩:=jI h;have h0:=nJ iI h0;simp only[decide_eq_true_eq]at h0;have h:=(jI (jI h).2).2;have hn:∀s∈l.map StT.name,s.size<=40:=by
   intro s o;obtain⟨x,j,rfl⟩:=yQ.1 o;rw[EL]at h;exact (jM (wP (jd h x j)).2.1).2
  have g:=KO hT hN l d k l (l.map StT.name) hn h hk iu;rw[CN,iC,iC,mo,mo,sB,sB,AuT.er,RR];have J:(iY [mB [97,117,116,111,109,97,116,111,110]]).length=9:=iI;have I:(iY [mB [101,110,100]]).length=3:=iI;omega
theorem FM (hT:mL el) (hN:pB el):∀(l:List AuT) (d k:Nat),yu el d l=0->k<=100+4*d->(iY (vN el k l)).length<=620000*sY (AuT.kv l)
 |[],_,_,_,_=>by rw[vN,ja];simp
 |a::l,d,k,h,hk=>by
  rw[yu]at h;have g1:=QK hT hN a d k (jI h).1 hk;have g2:=FM hT hN l d k (jI h).2 hk;rw[vN,iC,mo,AuT.kv,sY];omega
theorem Qv (hT:mL el) (hN:pB el):∀(x:StT) (d k n:Nat) (nms:List yB),(∀s∈nms,s.size<=40)->AM el n d x=0->k<=100+4*d->d<3->(iY (IC el k nms x)).length<=620000*Sh x.er
 |.mk nm lo eq A c au ul ut,d,k,n,nms,hn,h,hk,hd=>by
  have hq:=jM (wP h).2.1;simp only[StT.name]at hq;rw[AM]at h;obtain⟨h1,h⟩:=jI h;obtain⟨h2,h⟩:=jI h;obtain⟨h3,h⟩:=jI h;obtain⟨h4,h⟩:=jI h;obtain⟨h5,h⟩:=jI h;obtain⟨h6,h7⟩:=jI h;have h2:=nJ (by decide) h2;simp only[mT,decide_eq_true_eq]at h2;have g1:=Dc hT hN (k:=k+2) (by omega) h3 (by omega);have g2:(iY (sk el (k+2) [117,110,108,101,115,115] nms ul.l)).length<=90000*ul.l.length:=yq fun t ht=>My hT (by omega) (by decide) hn (Af (jd h6 t ht)).1
  have g3:(iY (sk el (k+2) [117,110,116,105,108] nms ut.l)).length<=90000*ut.l.length:=yq fun t ht=>My hT (by omega) (by decide) hn (Af (jd h7 t ht)).1
  have g4:(iY (eq.l.flatMap (zj el (k+2)))).length<=130000*eq.l.length:=yq fun q hq=>Mj hT (by omega) (jd h4 q hq)
  have g5:=FM hT hN au (d+1) (k+2) h5 iu;have hsl:=jr nm;rw[IC];simp only[iC,mo,sB];rw[StT.er,Sh,pE,pE,pE];have e1:(iY [mB [115,116,97,116,101],.sp 32,rM nm]).length<=46:=by rw[kH,jn,lQ,ja];simp;omega
  have e2:(iY [mB [100,111]]).length=2:=iI;have e3:(iY [mB [100,111,110,101]]).length=4:=iI;omega
theorem KO (hT:mL el) (hN:pB el):∀(l:List StT) (d k n:Nat) (nms:List yB),(∀s∈nms,s.size<=40)->yA el n d l=0->k<=100+4*d->d<3->(iY (wi el k nms l)).length<=620000*LI (StT.kv l)
 |[],_,_,_,_,_,_,_,_=>by rw[wi,ja];simp
 |x::l,d,k,n,nms,hn,h,hk,hd=>by
  rw[yA]at h;have g1:=Qv hT hN x d k n nms hn (jI h).1 hk hd;have g2:=KO hT hN l d k n nms hn (jI h).2 hk hd;rw[wi,iC,mo,StT.kv,LI];omega
end
theorem M6 (hT:mL el) (hN:pB el) {n:nh} (h:mY el n=0):(iY (qo el n)).length<=4000000+620000*(n.eqs.l+sY (AuT.kv n.autos.l)):=by
 obtain⟨k1,k2,k3,k4,k5,k6,k7,k8,k9,a8,J,a7,I,a6,o,a1⟩:=yW h;have R:=jM k1;have g1:=qC hT hN k2 iu;have g2:=qC hT hN k3 iu;have g3:=Dc hT hN (k:=1) iu k4 iu;have U:∀(j:List UInt8),j.length<=10->∀l:List Tx,iw (qk el) l=0->(iY (l.flatMap (kI el j))).length<=81000*l.length:=fun j hk l hl=>yq fun x hx=>by
  have:=IF hT (jd hl x hx);unfold kI;rw[sB,kH,jn,iC,jl,ja];simp;omega
 have g4:=U [97,115,115,117,109,101] iI n.assume.l I;have g5:=U [101,110,115,117,114,101] iI n.ensure.l o;have g6:(iY (n.eqs.l.flatMap (zj el 1))).length<=130000*n.eqs.l.length:=yq fun q R=>Mj hT (by omega) (jd k9 q R)
 have g7:=FM hT hN n.autos.l 0 1 (by rw[Ff];exact J) iu;have a_:=jr n.name;have e1:(iY (ya el n)).length<=1005000:=by
  unfold ya;rw[sB,kH,jn,lQ,jl,iC,jl,jn,kH,jn,jl,iC,jl,ja];simp;omega
 have e2:(iY [mB [108,101,116]]).length=3:=iI;have e3:(iY [mB [116,101,108]]).length=3:=iI;unfold qo qJ;simp only[iC,mo,sB];omega
theorem DB (hT:mL el) (hN:pB el):∀(l:List nh),(∀n∈l,mY el n=0)->(iY (l.flatMap (qo el))).length<=4000000*l+620000*yh (l.map nh.er)
 |[],_=>by simp[ja]
 |n::l,h=>by
  have g1:=M6 hT hN (h n nG);have g2:=DB hT hN l fun x hx=>h x (qj _ hx)
  have e1:sY (n.er).autos=sY (AuT.kv n.autos.l):=by
   show sY (n.autos.l.map AuT.er)=_
   have:∀l:List AuT,l.map AuT.er=AuT.kv l:=fun l=>by
    induction l with
    |nil=>rw[AuT.kv];rfl
    |cons a l ih=>rw[mJ,AuT.kv,ih]
   rw[this]
  have j:(n.er).eqs.length=n.eqs.l.length:=by show (n.eqs.l.map oX.er).length=_;rw[pE]
  rw[pZ,iC,mo,mJ,yh,e1,j,py];omega
theorem NK {nl:List nh} (h:(nv el nl).2.2=0) (hw:yh (nl.map nh.er)<=1048576):(iY (qK el nl)).length<=140737488355328:=by
 obtain⟨a6,a1,o,h2⟩:=uX h;have hT:mL el:=fun u j t R=>(jM (nS (jd (qm (o u j)).2.2.2 t R))).2
 have hN:pB el:=fun u j=>(jM (qm (o u j)).1).2
 have g1:=DB hT hN nl h2;have g2:(iY (el.flatMap sF)).length<=50000*el.length:=yq fun u j=>by
  obtain⟨J,i2,i3,I⟩:=qm (o u j);have:=Gs I (by omega);have:=jM J;have U:u.name.data.toList=u.name.size:=jr u.name;unfold sF;rw[sB,kH,jn,lQ,jn,jl,jn,iC,jl,ja];simp;omega
 unfold qK;rw[iC,mo];omega
end
structure P5 (n1:Nat) (F:Nat->Bool) (w:yM):Prop where
 low:∀b,b<n1->F b=true
 lim:∀b,F b=true->b<w.heap.size
structure pP {α:Type} (n1:Nat) (T:TypeId) (sz:Nat) (cells:α->zO) (ok:yM->α->Prop) (F:Nat->Bool) (w:yM) (v:Value) (l:List α):Prop where
 own:w.ownsRow n1 T sz v l (l.flatMap cells)
 cov:∀b,v.ownBlock=some b->F b=true
 inn:∀y∈l,ok (kK F w) y
section
variable {α:Type} {n1 m n k:Nat} {T:TypeId} {sz:Nat} {cells:α->zO} {ok:yM->α->Prop} {F G S:Nat->Bool} {w w':yM} {v v' u:Value} {l:List α} {q:Nat} {xs:zO}
theorem lF {b:Nat} (h:F b=true):iD F v b=true:=by unfold iD;rw[h];rfl
theorem pr {b:Nat} (h:v.ownBlock=some b):iD F v b=true:=by unfold iD;rw[h];simp
theorem vI {b:Nat} (h:iD F v b=true):F b=true\/v.ownBlock=some b:=by
 unfold iD at h;simpa only[uG,beq_iff_eq] using h
theorem P5.after (h:P5 n1 F w) (hs:w.heap.size<=w'):P5 n1 F w':=⟨h.low,fun b hb=>rO (h.lim b hb) hs⟩
theorem P5.add (h:P5 n1 F w) (hs:w.heap.size<=w') (hv:∀b,v.ownBlock=some b->b<w'.heap.size):P5 n1 (iD F v) w':=
 ⟨fun b hb=>lF (h.low b hb),fun b hb=>by
  rcases vI hb with hb | hb
  ·exact rO (h.lim b hb) hs
  exact hv b hb⟩
theorem yN (a:ik (kK F w) (kK G w')) (hv:∀b,v.ownBlock=some b->w.heap.size<=b):ik (kK F w) (kK (iD G v) w'):=by
 refine⟨⟨a.below.os,a.below.tape,a.below.output,by have h:=a.below.size;rw[pt,pt]at h⊢;exact h,fun b j=>?_⟩⟩;have o:=a.below.block b j;have e:iD G v b=G b:=by
  have:v.ownBlock≠some b:=fun e=>by have:=hv b e;rw[pt]at j;omega
  unfold iD;simp[this]
 rw[<- o];unfold kK;simp only[Array.getElem?_mapIdx,e]
theorem C4 (g:w.grownBy w' v.ownBlock) (hv:∀b,v.ownBlock=some b->F b=true) (hb:v'.ownBlock=v.ownBlock\/v'.ownBlock=some w):ik (kK F w) (kK (iD F v') w'):=by
 refine vx g.os g.tape g.output g.size fun b j=>⟨?_,fun e=>g.block b j fun o=>?_⟩
 ·unfold iD
  rcases hb with hb | hb
  ·rw[hb]
   cases hF:F b with
   |true=>rfl
   |false=>
   have:v.ownBlock≠some b:=fun e=>by rw[hv b e]at hF;cases hF
   simp[this]
  rw[hb];have:w≠b:=iu;simp[this]
 rw[hv b o.symm]at e;cases e
theorem Nq (h:w.ownsRow m T sz v k xs) (hm:n1<=m):w.ownsRow n1 T sz v k xs:=by
 refine⟨h.1,?_⟩;rcases h.2 with j | ⟨g,cap,cur,e,hb,rest⟩
 ·exact .inl j
 exact .inr ⟨g,cap,cur,e,jW hm hb,rest⟩
theorem Pd (h:w.ownsRow n1 T sz v k xs) (hS:∀b,v.ownBlock=some b->F b=false):(kK F w).ownsRow n1 T sz v k xs:=by
 refine⟨h.1,?_⟩;rcases h.2 with j | ⟨g,cap,cur,e,hb,hgg,rest⟩
 ·exact .inl j
 refine .inr ⟨g,cap,cur,e,hb,?_,rest⟩;rw[xk w (hS g (by rw[e];rfl))];exact hgg
theorem Aq (h:w.ownsRow n1 T sz u k xs) (g:w.grownBy w' v.ownBlock) (hne:∀b,u.ownBlock=some b->v.ownBlock≠some b):w'.ownsRow n1 T sz u k xs:=by
 refine⟨h.1,?_⟩;rcases h.2 with I | ⟨gg,cap,cur,e,hbb,hgg,rest⟩
 ·exact .inl I
 refine .inr ⟨gg,cap,cur,e,hbb,?_,rest⟩;have j:gg<w:=by
  rcases qa gg w with o | o
  ·exact o
  rw[FF o]at hgg;cases hgg
 rw[g.block gg j (fun J=>hne gg (by rw[e];rfl) J.symm)];exact hgg
theorem kh (h:w.ownsRow n1 T sz v k xs) {r:Nat} (hv:v.ownBlock≠some r) (i:Nat) (x:Value):(w.setCell (r,i) x).ownsRow n1 T sz v k xs:=by
 refine⟨h.1,?_⟩;rcases h.2 with j | ⟨g,cap,cur,e,hb,hgg,rest⟩
 ·exact .inl j
 refine .inr ⟨g,cap,cur,e,hb,?_,rest⟩;rw[Below.heap_setCell w _ x g (by show g≠r;rintro rfl;exact hv (by rw[e];rfl))];exact hgg
theorem pP.lt (h:pP n1 T sz cells ok F w v l) {b:Nat} (e:v.ownBlock=some b):n1<=b/\b<w:=h.own.lt b e
theorem pP.nil:pP n1 T sz cells ok F w (.slice none 0 0) ([]:List α):=⟨FL ..,(fun b hb=>by cases hb),(fun y hy=>by cases hy)⟩
theorem pP.step (h:pP n1 T sz cells ok F w v l) (hm:pH ok) (own:w'.ownsRow n1 T sz v l (l.flatMap cells)) (a:ik (kK F w) (kK G w')) (hG:∀b,F b=true->G b=true):pP n1 T sz cells ok G w' v l:=
 ⟨own,fun b hb=>hG b (h.cov b hb),fun y hy=>hm.below _ _ _ a.below (h.inn y hy)⟩
theorem pP.iv (h:pP n1 T sz cells ok F w v l) (hm:pH ok) (hq:q<n1) (hF:F q=true) (a:ik (iz q w) (iz q w')):pP n1 T sz cells ok F w' v l:=
 h.step hm (tM (nF (sG h.own hq) a) hq) (j_ (q:=q) hF a) fun _ h=>h
theorem pP.after (h:pP n1 T sz cells ok F w v l) (hm:pH ok) (a:ik w w'):pP n1 T sz cells ok F w' v l:=
 h.step hm (nF h.own a) (oS a) fun _ h=>h
theorem pP.wide (h:pP n1 T sz cells ok F w v l) (hm:pH ok) (hq:q<n1) (a:ik (iz q w) (iz q w')) (aF:ik (kK F w) (kK G w')) (hG:∀b,F b=true->G b=true):pP n1 T sz cells ok G w' v l:=
 h.step hm (tM (nF (sG h.own hq) a) hq) aF hG
theorem pP.grow (h:pP n1 T sz cells ok F w v l) (hm:pH ok) {ys:List α} (hy:∀y∈ys,ok (kK F w) y) (own:w'.ownsRow n1 T sz v' (l++ys).length ((l++ys).flatMap cells)) (g:w.grownBy w' v.ownBlock) (hb:v'.ownBlock=v.ownBlock\/v'.ownBlock=some w):pP n1 T sz cells ok (iD F v') w' v' (l++ys):=
 ⟨own,fun b hb=>pr hb,fun y hy'=>hm.below _ _ _ (C4 g h.cov hb).below (by
  rcases ue.1 hy' with h1 | h1
  ·exact h.inn y h1
  exact hy y h1)⟩
theorem pP.pO (h:pP n1 T sz cells ok F w u l) (hm:pH ok) (g:w.grownBy w' v.ownBlock) (hv:∀b,v.ownBlock=some b->F b=true) (hb:v'.ownBlock=v.ownBlock\/v'.ownBlock=some w) (hne:∀b,u.ownBlock=some b->v.ownBlock≠some b):pP n1 T sz cells ok (iD F v') w' u l:=
 h.step hm (Aq h.own g hne) (C4 g hv hb) fun _ h=>lF h
theorem pP.lW (h:pP n1 T sz cells ok F w v l) (hm:pH ok) {r:Nat} (hr:F r=true) (hne:v.ownBlock≠some r) (i:Nat) (x:Value):pP n1 T sz cells ok F (w.setCell (r,i) x) v l:=
 h.step hm (kh h.own hne i x) (kJ hr _ _ _) fun _ h=>h
theorem AR (hc:∀y,(cells y).length=sz):∀(l:List α) (k j:Nat) (y y':α) (x:Value),l[k]?=some y->j<sz->(cells y).set j x=cells y'->(l.flatMap cells).set (k*sz+j) x=(l.set k y').flatMap cells
 |[],k,j,y,y',x,h,_,_=>by simp at h
 |a::l,0,j,y,y',x,h,hj,hx=>by
  simp at h;subst h;rw[pZ,zH,t_,List.set_append_left _ _ (by rw[hc];exact hj),hx,oB,pZ]
 |a::l,k+1,j,y,y',x,h,hj,hx=>by
  have ih:=AR hc l k j y y' x (by simpa using h) hj hx;rw[pZ,List.set_append_right _ _ (by rw[hc,Nat.succ_mul];omega),hc,show (k+1)*sz+j-sz=k*sz+j by rw[Nat.succ_mul];omega,ih,oq,pZ]
theorem pP.Ok (h:pP n1 T sz cells ok F w v l) (hm:pH ok) (hc:∀y,(cells y).length=sz) {g c:Nat} (e:v=.slice g l c) {k j:Nat} {y y':α} {x:Value} (hk:l[k]?=some y) (hj:j<sz) (hx:(cells y).set j x=cells y') (hy:ok (kK F w) y'):pP n1 T sz cells ok F (w.setCell (g,k*sz+j) x) v (l.set k y'):=by
 subst e;have I:=h.cov g rfl;have J:=(h.own.stored (k*sz+j) x).1;rw[AR hc l k j y y' x hk hj hx]at J;refine⟨by rw[Gh];exact J,h.cov,fun z o=>hm.below _ _ _ (kJ I _ _ _).below ?_⟩;rcases Lj o with o | o
 ·exact h.inn z o
 subst o;exact hy
theorem pP.Ol (h:kZ m T sz cells ok S w v l) (hm:pH ok) (hn:n1<=m) (hG:∀b,G b=true->iD S v b=true) (hv:∀b,v.ownBlock=some b->G b=true):pP n1 T sz cells ok G w v l:=
 ⟨Nq h.own hn,hv,fun y hy=>hm.sub _ _ _ (rp hG w) (h.inn y hy)⟩
theorem kZ.Sw {P:yM->Nat->Nat->α->Prop} (h:kZ m T sz cells ok S w v l) (hm:pH ok) (hc:∀y,(cells y).length=sz) (hl:l.length<=140737488355328)
  (hP:∀W b o y,ok W y->(∀j u,(cells y)[j]?=some u->W.cell? ⟨b,o+j,none⟩=some u)->P W b o y) (hS:∀b,v.ownBlock=some b->S b=false):∃A c,v=.slice A l.length c/\ir sz P (kK S w) ⟨A,c,l⟩:=
 KK hc (Pd h.own hS) hl fun b o y _ hy hj=>hP _ b o y (hm.sub _ _ _ (rp (fun _ h=>lF h) w) (h.inn y hy)) hj
theorem pP.row {P:yM->Nat->Nat->α->Prop} {A:zA} {c:Nat} (h:pP n1 T sz cells ok F w (.slice A l c) l) (hm:pH ok) (hF:∀b,b<n1->F b=true) (hc:∀y,(cells y).length=sz) (hl:l.length<=140737488355328)
  (hP:∀W b o y,ok W y->(∀j u,(cells y)[j]?=some u->W.cell? ⟨b,o+j,none⟩=some u)->P W b o y):ir sz P (old n1 w) ⟨A,c,l⟩:=by
 obtain⟨A',U,e,R⟩:=KK (P:=P) hc (Bw h.own) hl fun b o y _ I J=>hP _ b o y (hm.sub _ _ _ (sZ w hF) (h.inn y I)) J
 injection e with e1 e2 e3
 subst e1;subst e3;exact R
theorem pP.PZ {P:yM->Nat->Nat->α->Prop} {A:zA} {c:Nat} (h:pP n1 T sz cells ok F w (.slice A l c) l) (hm:pH ok) (hc:∀y,(cells y).length=sz) (hl:l.length<=140737488355328)
  (hP:∀W b o y,ok W y->(∀j u,(cells y)[j]?=some u->W.cell? ⟨b,o+j,none⟩=some u)->P W b o y):ir sz P w ⟨A,c,l⟩:=by
 obtain⟨A',U,e,R⟩:=KK (P:=P) hc h.own hl fun b o y _ I J=>hP _ b o y (hm.sub _ _ _ (Ov F w) (h.inn y I)) J
 injection e with e1 e2 e3
 subst e1;subst e3;exact R
end
section
open Go.Proofs.Tryz
abbrev Gl:=yB×Nat
def Dg (W:yM) (b o:Nat) (y:Gl):Prop:=W.cell? (b,o)=y.1/\W.cell? (b,o+1)=(y.2:Nat)/\y.1.size<=65536/\y.2<=65536
theorem lB:tO Dg:=fun w w' b o y hb hlt h=>⟨(mH hb hlt).trans h.1,(mH hb hlt).trans h.2.1,h.2.2⟩
theorem CK:Ai Dg:=fun W w b o y k h=>⟨k.cell _ _ _ h.1,k.cell _ _ _ h.2.1,h.2.2⟩
def E_ (g:nB Gl):zO:=[(g.A,g.l,g.c)]
def SD (W:yM) (g:nB Gl):Prop:=ir 2 Dg W g
theorem vp:pH SD:=⟨fun W W' y hb h=>h.below lB hb,fun W w y k h=>v_ CK h k⟩
theorem Mf {W:yM} {b o:Nat} {y:Gl} (h:GF W y) (hj:∀j u,(qg y)[j]?=some u->W.cell? ⟨b,o+j,none⟩=some u):Dg W b o y:=⟨hj 0 _ rfl,hj 1 _ rfl,h⟩
def TD (W:yM) (b o:Nat) (y:nB Gl):Prop:=W.cell? (b,o)=(y.A,y.l,y.c)/\ir 2 Dg W y
theorem Oa {W:yM} {b o:Nat} {y:nB Gl} (h:SD W y) (hj:∀j u,(E_ y)[j]?=some u->W.cell? ⟨b,o+j,none⟩=some u):TD W b o y:=⟨hj 0 _ rfl,h⟩
theorem Ro:(prog.info? 237).map (fun i=>(i.zero,i.size,i.bytes))=some (some (.slice none 0 0),1,24):=by kernel_rfl
theorem QJ:(prog.info? 184).map (fun i=>(i.zero,i.size,i.bytes))=some (some (.agg #[.string ⟨#[]⟩,(),(),(),(),()]),6,136):=by kernel_rfl
structure SR where
 st:StT
 ug:nB Gl
 vg:nB Gl
def I6 (x:StT):zO:=[x.name,(x.locals.A,x.locals.l.length,x.locals.c),(x.eqs.A,x.eqs.l,x.eqs.c),(x.ad,x.autos,x.cap),(x.unl.A,x.unl.l,x.unl.c),(x.unt.A,x.unt.l,x.unt.c)]
def sN (r:SR):zO:=I6 r.st
structure Tt (W:yM) (x:StT):Prop where
 nm:x.name.size<=65536
 lo:ir 3 jG W x.locals
 eq:ir 7 (xv True) W x.eqs
 au:ir 1 (xM True) W ⟨x.ad,x.cap,x.autos⟩
def Mc (W:yM) (r:SR):Prop:=Tt W r.st
theorem si:tO (xM True):=qO
theorem NB:pH Tt:=⟨fun W W' y hb h=>⟨h.nm,h.lo.below iM hb,h.eq.below mX hb,h.au.below si hb⟩,fun W w y k h=>⟨h.nm,h.lo.sub ky k,h.eq.sub uU k,v_ wY h.au k⟩⟩
theorem sT:pH Mc:=⟨fun W W' y hb h=>NB.below W W' y.st hb h,fun W w y k h=>NB.sub W w y.st k h⟩
theorem Ja {W:yM} {b o:Nat} {y:SR} (h:Mc W y) (hj:∀j u,(sN y)[j]?=some u->W.cell? ⟨b,o+j,none⟩=some u):Bp W b o y.st:=
 ⟨hj 0 _ rfl,hj 1 _ rfl,hj 2 _ rfl,hj 3 _ rfl,hj 4 _ rfl,hj 5 _ rfl⟩
def yv (t:List ma) (g:List Gl):List wo:=List.zipWith (fun (t:ma) (g:Gl)=>wo.mk t.cond.er t.res g.1) t g
def SR.sn (r:SR):Ci:=⟨r.st.name,r.st.locals.l.map iO.er,r.st.eqs.l.map oX.er,r.st.autos.map AuT.er,yv r.st.unl.l r.ug.l,yv r.st.unt.l r.vg.l⟩
theorem QP (l:List AuT):AuT.kv l=l.map AuT.er:=by
 induction l with
 |nil=>rw[AuT.kv];rfl
 |cons a l ih=>rw[AuT.kv,ih];rfl
theorem Rs (l:List StT):StT.kv l=l.map StT.er:=by
 induction l with
 |nil=>rw[StT.kv];rfl
 |cons a l ih=>rw[StT.kv,ih];rfl
def Qc (l:zO):Prop:=∀(i j:Nat) (v v':Value),i≠j->l[i]?=some v->l[j]?=some v'->∀b,v.ownBlock=some b->v'.ownBlock≠some b
theorem Qc.snoc {l:zO} (h:Qc l) {u:Value} (hu:∀v∈l,∀b,v.ownBlock=some b->u.ownBlock≠some b):Qc (l++[u]):=by
 intro i j v v' U I o b hb;rcases qa i l with R | R<;>rcases qa j l with J | J
 ·rw[wk R]at I
  rw[wk J]at o;exact h i j v v' U I o b hb
 ·rw[wk R]at I
  rw[xK J]at o;have e:=om o;simp only[la]at e;subst e;exact hu v (om I) b hb
 ·rw[xK R]at I
  rw[wk J]at o;have e:=om I;simp only[la]at e;subst e;exact fun e2=>hu v' (om o) b e2 hb
 exfalso;have h3:=(rq.1 I).1;have h4:=(rq.1 o).1;simp at h3 h4;omega
theorem Qc.set {l:zO} (h:Qc l) {k:Nat} {u:Value} (hu:∀i v,i≠k->l[i]?=some v->∀b,v.ownBlock=some b->u.ownBlock≠some b):Qc (l.set k u):=by
 intro i j v U J I o b R;rw[I']at I o;split at I<;>split at o
 ·omega
 ·rename_i e1 e2
  split at I
  ·injection I with I;subst I
   exact fun e=>hu j U iu o b e R
  cases I
 ·rename_i e1 e2
  split at o
  ·injection o with o;subst o
   exact hu i v iu I b R
  cases o
 exact h i j v U J I o b R
def my (rs:List SR):zO:=rs.flatMap fun r=>[r.st.unl.val,r.st.unt.val]
theorem qq:∀{rs:List SR} {i:Nat} {r:SR},rs[i]?=some r->(my rs)[2*i]?=some r.st.unl.val/\(my rs)[2*i+1]?=some r.st.unt.val
 |[],i,r,h=>by simp at h
 |a::rs,0,r,h=>by
  simp at h;subst h;exact⟨rfl,rfl⟩
 |a::rs,i+1,r,h=>by
  have ih:=qq (rs:=rs) (i:=i) (r:=r) (by simpa using h);show ((_::_::my rs):zO)[2*(i+1)]?=_/\((_::_::my rs):zO)[2*(i+1)+1]?=_
  rw[show 2*(i+1)=2*i+1+1 by omega];exact ih
theorem oI (rs:List SR):(my rs).length=2*rs.length:=by
 induction rs with
 |nil=>rfl
 |cons a rs ih=>show (my rs).length+1+1=_;rw[ih,py];omega
def ng (vS vG:Value) (rs:List SR) (ps:zO):zO:=vS::vG::(my rs++ps)
structure pC (n1:Nat) (F:Nat->Bool) (w:yM) (vS vG:Value) (rs:List SR) (gs:List (nB Gl)) (ps:zO):Prop where
 fam:P5 n1 F w
 st:pP n1 184 6 sN Mc F w vS rs
 go:pP n1 237 1 E_ SD F w vG gs
 un:∀(i:Nat) (r:SR),rs[i]?=some r->pP n1 223 8 kx vo F w r.st.unl.val r.st.unl.l
 ut:∀(i:Nat) (r:SR),rs[i]?=some r->pP n1 223 8 kx vo F w r.st.unt.val r.st.unt.l
 pc:∀v∈ps,∀b,v.ownBlock=some b->F b=true
 dif:Qc (ng vS vG rs ps)
section
variable {n1 q:Nat} {F:Nat->Bool} {w w':yM} {vS vG v:Value} {rs:List SR} {gs:List (nB Gl)} {ps:zO}
theorem pC.nil (h:n1<=w):pC n1 (fun b=>decide (b<n1)) w (.slice none 0 0) (.slice none 0 0) [] [] []:=by
 refine⟨⟨fun b I=>lp I,fun b I=>by have:=vO I;omega⟩,pP.nil,pP.nil,(fun i r h=>by simp at h),(fun i r h=>by simp at h),(fun v h=>by cases h),?_⟩;intro i j v R J o U b I
 match i,o with
 |0,o=>injection o with o;subst o;cases I
 |1,o=>injection o with o;subst o;cases I
 |i+2,o=>simp[ng,my]at o
theorem pC.cov (h:pC n1 F w vS vG rs gs ps):∀v∈ng vS vG rs ps,∀b,v.ownBlock=some b->F b=true:=by
 intro v j b o;simp only[ng,uW,ue]at j;rcases j with rfl | rfl | j | j
 ·exact h.st.cov b o
 ·exact h.go.cov b o
 ·obtain⟨r,J,j⟩:=List.mem_flatMap.1 j
  obtain⟨i,I⟩:=List.mem_iff_getElem?.1 J;simp only[la]at j;rcases j with rfl | rfl
  ·exact (h.un i r I).cov b o
  exact (h.ut i r I).cov b o
 exact h.pc v j b o
theorem pC.iv (h:pC n1 F w vS vG rs gs ps) (hq:q<n1) (a:ik (iz q w) (iz q w')):pC n1 F w' vS vG rs gs ps:=by
 have I:=a.below.size;rw[iZ,iZ]at I;have j:=h.fam.low q hq;exact⟨h.fam.after I,h.st.iv sT hq j a,h.go.iv vp hq j a,fun i r o=>(h.un i r o).iv jF hq j a,fun i r o=>(h.ut i r o).iv jF hq j a,h.pc,h.dif⟩
theorem pC.after (h:pC n1 F w vS vG rs gs ps) (a:ik w w'):pC n1 F w' vS vG rs gs ps:=
 ⟨h.fam.after a.below.size,h.st.after sT a,h.go.after vp a,fun i r hr=>(h.un i r hr).after jF a,fun i r hr=>(h.ut i r hr).after jF a,h.pc,h.dif⟩
theorem pC.KU (h:pC n1 F w vS vG rs gs ps) {r:Nat} (hr:F r=true) (hne:∀v∈ng vS vG rs [],v.ownBlock≠some r) (i:Nat) (x:Value):pC n1 F (w.setCell (r,i) x) vS vG rs gs ps:=by
 have J:∀(j:Nat) (o:SR),rs[j]?=some o->o.st.unl.val.ownBlock≠some r/\o.st.unt.val.ownBlock≠some r:=fun j o I=>
  ⟨hne _ (by simp only[ng,uW,ue];exact .inr (.inr (.inl (om (qq I).1)))),hne _ (by simp only[ng,uW,ue];exact .inr (.inr (.inl (om (qq I).2))))⟩
 exact⟨h.fam.after (lI (jc ..).symm),h.st.lW sT hr (hne _ (by simp[ng])) i x,h.go.lW vp hr (hne _ (by simp[ng])) i x,
  fun j o I=>(h.un j o I).lW jF hr (J j o I).1 i x,fun j o I=>(h.ut j o I).lW jF hr (J j o I).2 i x,h.pc,h.dif⟩
theorem pC.P0 (h:pC n1 F w vS vG rs gs ps) {r:Nat} (hr:r<n1) (i:Nat) (x:Value):pC n1 F (w.setCell (r,i) x) vS vG rs gs ps:=
 h.KU (h.fam.low r hr) (fun v hv e=>by
  simp only[ng,uW,ue]at hv;have hb:n1<=r:=by
   rcases hv with rfl | rfl | hv | hv
   ·exact (h.st.lt e).1
   ·exact (h.go.lt e).1
   ·obtain⟨o,j,hv⟩:=List.mem_flatMap.1 hv
    obtain⟨i,I⟩:=List.mem_iff_getElem?.1 j;simp only[la]at hv;rcases hv with rfl | rfl
    ·exact ((h.un i o I).lt e).1
    exact ((h.ut i o I).lt e).1
   cases hv
  omega) i x
theorem pC.zR (h:pC n1 F w vS vG rs gs (v::ps)) {r:Nat} (hr:v.ownBlock=some r) (i:Nat) (x:Value):pC n1 F (w.setCell (r,i) x) vS vG rs gs (v::ps):=
 h.KU (h.pc v (nG ..) r hr) (fun u hu e=>by
  have hv:(ng vS vG rs (v::ps))[2*rs.length+2]?=some v:=by
   show (my rs++v::ps)[2*rs.length]?=_
   rw[xK (by rw[oI];omega),oI,Nat.sub_self];rfl
  obtain⟨j,J⟩:=List.mem_iff_getElem?.1 hu;have o:=(rq.1 J).1;have U:(ng vS vG rs []).length=2*rs.length+2:=by unfold ng;simp[oI]
  have I:(ng vS vG rs (v::ps))[j]?=some u:=by
   have R:ng vS vG rs (v::ps)=ng vS vG rs []++(v::ps):=by unfold ng;simp
   rw[R,wk o];exact J
  exact h.dif j (2*rs+2) u v (by omega) I hv r e hr) i x
theorem pC.join (h:pC n1 F w vS vG rs gs ps) (hq:q<n1) (a:ik (iz q w) (iz q w')) (hv:∀b,v.ownBlock=some b->w.heap.size<=b/\b<w'.heap.size):pC n1 (iD F v) w' vS vG rs gs (ps++[v]):=by
 have U:=a.below.size;rw[iZ,iZ]at U;have hF:=h.fam.low q hq;have J:ik (kK F w) (kK (iD F v) w'):=yN (j_ (q:=q) hF a) fun b j=>(hv b j).1
 have I:∀b,F b=true->iD F v b=true:=fun b j=>lF j
 refine⟨h.fam.add U fun b j=>(hv b j).2,h.st.wide sT hq a J I,h.go.wide vp hq a J I,fun i r R=>(h.un i r R).wide jF hq a J I,fun i r R=>(h.ut i r R).wide jF hq a J I,fun u o b j=>?_,?_⟩
 ·rcases ue.1 o with o | o
  ·exact lF (h.pc u o b j)
  simp only[la]at o;subst o;exact pr j
 have e:ng vS vG rs (ps++[v])=ng vS vG rs ps++[v]:=by unfold ng;simp
 rw[e];exact h.dif.snoc fun u o b j e2=>by
  have h1:=h.fam.lim b (h.cov u o b j);have:=(hv b e2).1;omega
theorem pC.grow {v':Value} {ys:List SR} (h:pC n1 F w vS vG rs gs (v::ps)) (hp:ps=my ys) (hy:∀y∈ys,Mc (kK F w) y)
  (hu:∀y∈ys,pP n1 223 8 kx vo F w y.st.unl.val y.st.unl.l) (ht:∀y∈ys,pP n1 223 8 kx vo F w y.st.unt.val y.st.unt.l)
  (own:w'.ownsRow n1 184 6 v' (rs++ys).length ((rs++ys).flatMap sN)) (g:w.grownBy w' vS.ownBlock) (hb:v'.ownBlock=vS.ownBlock\/v'.ownBlock=some w):pC n1 (iD F v') w' v' vG (rs++ys) gs []:=by
 subst hp;have o:∀i u,i≠0->(ng vS vG rs (v::my ys))[i]?=some u->∀b,u.ownBlock=some b->vS.ownBlock≠some b:=fun i u hi I b hb=>by
  exact fun e=>h.dif 0 i vS u iu rfl I b e hb
 have hT:∀(i:Nat) (r:SR),rs[i]?=some r->(∀b,r.st.unl.val.ownBlock=some b->vS.ownBlock≠some b)/\(∀b,r.st.unt.val.ownBlock=some b->vS.ownBlock≠some b):=fun i r J=>by
  have U:=(rq.1 J).1;have h2:=qq J;exact⟨o (2*i+2) _ iu (by show (my rs++_)[2*i]?=_;rw[wk (by rw[oI];omega)];exact h2.1),
   o (2*i+1+2) _ iu (by show (my rs++_)[2*i+1]?=_;rw[wk (by rw[oI];omega)];exact h2.2)⟩
 have hY:∀(i:Nat) (r:SR),ys[i]?=some r->(∀b,r.st.unl.val.ownBlock=some b->vS.ownBlock≠some b)/\(∀b,r.st.unt.val.ownBlock=some b->vS.ownBlock≠some b):=fun i r J=>by
  have h2:=qq J;have e:∀j,(ng vS vG rs (v::my ys))[j+1+2*rs.length+2]?=(my ys)[j]?:=fun j=>by
   show (my rs++v::my ys)[j+1+2*rs.length]?=_
   rw[xK (by rw[oI];omega),oI,show j+1+2*rs.length-2*rs.length=j+1 by omega];rfl
  exact⟨o _ _ iu ((e _).trans h2.1),o _ _ iu ((e _).trans h2.2)⟩
 refine⟨h.fam.add g.size fun b e=>(own.lt b e).2,h.st.grow sT hy own g hb,h.go.pO vp g h.st.cov hb (o 1 vG iu rfl),fun i r J=>?_,fun i r J=>?_,(fun u hu=>by cases hu),?_⟩
 ·rcases qa i rs with U | U
  ·rw[wk U]at J
   exact (h.un i r J).pO jF g h.st.cov hb (hT i r J).1
  rw[xK U]at J;exact (hu r (om J)).pO jF g h.st.cov hb (hY _ r J).1
 ·rcases qa i rs with U | U
  ·rw[wk U]at J
   exact (h.ut i r J).pO jF g h.st.cov hb (hT i r J).2
  rw[xK U]at J;exact (ht r (om J)).pO jF g h.st.cov hb (hY _ r J).2
 have e:ng v' vG (rs++ys) []=((ng vS vG rs (v::my ys)).eraseIdx (2*rs+2)).set 0 v':=by
  unfold ng;rw[show my (rs++ys)=my rs++my ys by unfold my;rw[Fa]];show _=v'::(vG::(my rs++v::my ys).eraseIdx (2*rs.length))
  rw[List.eraseIdx_append_of_length_le (by rw[oI];omega),oI,Nat.sub_self,oV];rfl
 have hE:Qc ((ng vS vG rs (v::my ys)).eraseIdx (2*rs+2)):=by
  intro i j u u' a1 hi hj b R;rw[List.getElem?_eraseIdx]at hi hj;split at hi<;>split at hj<;>exact h.dif _ _ u u' iu hi hj b R
 rw[e];refine hE.set fun i u hi I b R e2=>?_
 rw[List.getElem?_eraseIdx]at I;obtain⟨j,hj,I⟩:∃j,j≠0/\(ng vS vG rs (v::my ys))[j]?=some u:=by
  split at I
  ·exact⟨i,hi,I⟩
  exact⟨i+1,iu,I⟩
 rcases hb with hb | hb
 ·rw[hb]at e2;exact o j u hj I b R e2
 rw[hb]at e2;injection e2 with e2
 have:=h.fam.lim b (h.cov u (om I) b R);omega
theorem pC.Sx {v':Value} {ys:List (nB Gl)} (h:pC n1 F w vS vG rs gs ps) (hy:∀y∈ys,SD (kK F w) y)
  (own:w'.ownsRow n1 237 1 v' (gs++ys).length ((gs++ys).flatMap E_)) (g:w.grownBy w' vG.ownBlock) (hb:v'.ownBlock=vG.ownBlock\/v'.ownBlock=some w):pC n1 (iD F v') w' vS v' rs (gs++ys) ps:=by
 have j:∀i u,i≠1->(ng vS vG rs ps)[i]?=some u->∀b,u.ownBlock=some b->vG.ownBlock≠some b:=fun i u U o b hb=>by
  exact fun e=>h.dif 1 i vG u iu rfl o b e hb
 have hT:∀(i:Nat) (r:SR),rs[i]?=some r->(∀b,r.st.unl.val.ownBlock=some b->vG.ownBlock≠some b)/\(∀b,r.st.unt.val.ownBlock=some b->vG.ownBlock≠some b):=fun i r I=>by
  have h1:=(rq.1 I).1;have h2:=qq I;exact⟨j (2*i+2) _ (by omega) (by show (my rs++_)[2*i]?=_;rw[wk (by rw[oI];omega)];exact h2.1),
   j (2*i+1+2) _ (by omega) (by show (my rs++_)[2*i+1]?=_;rw[wk (by rw[oI];omega)];exact h2.2)⟩
 refine⟨h.fam.add g.size fun b e=>(own.lt b e).2,h.st.pO sT g h.go.cov hb (j 0 vS iu rfl),h.go.grow vp hy own g hb,fun i r I=>(h.un i r I).pO jF g h.go.cov hb (hT i r I).1,fun i r I=>(h.ut i r I).pO jF g h.go.cov hb (hT i r I).2,fun u hu b hb=>lF (h.pc u hu b hb),?_⟩;have e:ng vS v' rs ps=(ng vS vG rs ps).set 1 v':=rfl;rw[e];refine h.dif.set fun i u U o b J R=>?_
 rcases hb with hb | hb
 ·rw[hb]at R;exact j i u U o b J R
 rw[hb]at R;injection R with R
 have:=h.fam.lim b (h.cov u (om o) b J);omega
end
end
theorem te {α β:Type} (f:α->List β):∀(l:List α) (k:Nat) (y y':α),l[k]?=some y->f y'=f y->(l.set k y').flatMap f=l.flatMap f
 |[],k,y,y',h,_=>by simp at h
 |a::l,0,y,y',h,he=>by
  simp at h;subst h;rw[oB,pZ,pZ,he]
 |a::l,k+1,y,y',h,he=>by
  rw[oq,pZ,pZ,te f l k y y' (by simpa using h) he]
theorem wH {α β:Type} (f:α->β):∀(l:List α) (k:Nat) (y y':α),l[k]?=some y->f y'=f y->(l.set k y').map f=l.map f
 |[],k,y,y',h,_=>by simp at h
 |a::l,0,y,y',h,he=>by
  simp at h;subst h;rw[oB,mJ,mJ,he]
 |a::l,k+1,y,y',h,he=>by
  rw[oq,mJ,mJ,wH f l k y y' (by simpa using h) he]
def ma.goto (t:ma) (z:Int):ma:=⟨t.cond,z,t.res⟩
def AE (l:nB ma) (k:Nat) (z:Int):nB ma:=⟨l.A,l.c,l.l.modify k (fun t=>t.goto z)⟩
def StT.vf:StT->Nat->Int->StT | .mk n l e A c a u v,k,z=>.mk n l e A c a (AE u k z) v
def StT.uE:StT->Nat->Int->StT | .mk n l e A c a u v,k,z=>.mk n l e A c a u (AE v k z)
def SR.vf (r:SR) (k:Nat) (z:Int):SR:=⟨r.st.vf k z,r.ug,r.vg⟩
def SR.uE (r:SR) (k:Nat) (z:Int):SR:=⟨r.st.uE k z,r.ug,r.vg⟩
theorem Hx (l:nB ma) (k:Nat) (z:Int):(AE l k z).val=l.val:=by unfold AE nB.val;simp
theorem qG (x:StT) (k:Nat) (z:Int):(x.vf k z).name=x.name/\(x.vf k z).locals=x.locals/\(x.vf k z).eqs=x.eqs/\(x.vf k z).ad=x.ad/\(x.vf k z).cap=x.cap/\(x.vf k z).autos=x.autos/\(x.vf k z).unl=AE x.unl k z/\(x.vf k z).unt=x.unt:=by
 cases x;exact⟨rfl,rfl,rfl,rfl,rfl,rfl,rfl,rfl⟩
theorem qN (x:StT) (k:Nat) (z:Int):(x.uE k z).name=x.name/\(x.uE k z).locals=x.locals/\(x.uE k z).eqs=x.eqs/\(x.uE k z).ad=x.ad/\(x.uE k z).cap=x.cap/\(x.uE k z).autos=x.autos/\(x.uE k z).unl=x.unl/\(x.uE k z).unt=AE x.unt k z:=by
 cases x;exact⟨rfl,rfl,rfl,rfl,rfl,rfl,rfl,rfl⟩
theorem Lg (r:SR) (k:Nat) (z:Int):sN (r.vf k z)=sN r:=by
 obtain⟨h1,h2,U,R,J,I,o,j⟩:=qG r.st k z;unfold sN I6 SR.vf;simp only[h1,h2,U,R,J,I,o,j,AE,List.length_modify]
theorem Lc (r:SR) (k:Nat) (z:Int):sN (r.uE k z)=sN r:=by
 obtain⟨h1,h2,U,R,J,I,o,j⟩:=qN r.st k z;unfold sN I6 SR.uE;simp only[h1,h2,U,R,J,I,o,j,AE,List.length_modify]
theorem NZ (r:SR) (k:Nat) (z:Int):(r.vf k z).st.unl.val=r.st.unl.val/\(r.vf k z).st.unt.val=r.st.unt.val:=by
 obtain⟨h1,h2,U,R,J,I,o,j⟩:=qG r.st k z;unfold SR.vf;simp only[o,j,Hx,and_self]
theorem MD (r:SR) (k:Nat) (z:Int):(r.uE k z).st.unl.val=r.st.unl.val/\(r.uE k z).st.unt.val=r.st.unt.val:=by
 obtain⟨h1,h2,U,R,J,I,o,j⟩:=qN r.st k z;unfold SR.uE;simp only[o,j,Hx,and_self]
theorem QT {W:yM} {r:SR} (h:Mc W r) (k:Nat) (z:Int):Mc W (r.vf k z):=by
 obtain⟨U,R,J,I,o,j,h7,h8⟩:=qG r.st k z;exact⟨by show (r.st.vf k z).name.size<=_;rw[U];exact h.nm,by show ir 3 jG W (r.st.vf k z).locals;rw[R];exact h.lo,by show ir 7 (xv True) W (r.st.vf k z).eqs;rw[J];exact h.eq,by show ir 1 (xM True) W ⟨(r.st.vf k z).ad,(r.st.vf k z).cap,(r.st.vf k z).autos⟩;rw[I,o,j];exact h.au⟩
theorem Q7 {W:yM} {r:SR} (h:Mc W r) (k:Nat) (z:Int):Mc W (r.uE k z):=by
 obtain⟨U,R,J,I,o,j,h7,h8⟩:=qN r.st k z;exact⟨by show (r.st.uE k z).name.size<=_;rw[U];exact h.nm,by show ir 3 jG W (r.st.uE k z).locals;rw[R];exact h.lo,by show ir 7 (xv True) W (r.st.uE k z).eqs;rw[J];exact h.eq,by show ir 1 (xM True) W ⟨(r.st.uE k z).ad,(r.st.uE k z).cap,(r.st.uE k z).autos⟩;rw[I,o,j];exact h.au⟩
theorem Hv {l:nB ma} {k:Nat} {t:ma} (h:l.l[k]?=some t) (z:Int):(AE l k z).l=l.l.set k (t.goto z):=by
 show l.l.modify k _=_
 apply List.ext_getElem?;intro i;rw[List.getElem?_modify,I'];by_cases e:k=i
 ·subst e
  have:=(rq.1 h).1;rw[h];simp[this]
 simp[e]
theorem An:∀(l:List ma) (g:List Gl) (k:Nat) (z:Int),yv (l.modify k (fun t=>t.goto z)) g=yv l g
 |[],g,k,z=>by simp
 |t::l,[],k,z=>by
  cases k<;>simp[yv]
 |t::l,x::g,0,z=>rfl
 |t::l,x::g,k+1,z=>by
  have ih:=An l g k z;show _::yv (l.modify k _) g=_::yv l g
  rw[ih]
theorem QZ (r:SR) (k:Nat) (z:Int):(r.vf k z).sn=r.sn:=by
 obtain⟨U,R,J,h4,h5,I,o,j⟩:=qG r.st k z;unfold SR.sn SR.vf;simp only[U,R,J,I,o,j,AE,An]
theorem Rg (r:SR) (k:Nat) (z:Int):(r.uE k z).sn=r.sn:=by
 obtain⟨U,R,J,h4,h5,I,o,j⟩:=qN r.st k z;unfold SR.sn SR.uE;simp only[U,R,J,I,o,j,AE,An]
theorem sf (y:ma):(kx y).length=8:=rfl
theorem Dd (t:ma) (z:Int):(kx t).set 6 (.int .i64 z)=kx (t.goto z):=rfl
theorem Kg {W:yM} {t:ma} (h:vo W t) (z:Int):vo W (t.goto z):=⟨h.co,h.tb,h.sz⟩
section
variable {n1 q:Nat} {F:Nat->Bool} {w w':yM} {vS vG v:Value} {rs:List SR} {gs:List (nB Gl)} {ps:zO}
theorem pC.AH (h:pC n1 F w vS vG rs gs ps) {i j:Nat} {v v':Value} (hij:i≠j) (hi:(my rs)[i]?=some v) (hj:(my rs)[j]?=some v') {b:Nat} (hb:v.ownBlock=some b):v'.ownBlock≠some b:=by
 have e:∀k u,(my rs)[k]?=some u->(ng vS vG rs ps)[k+2]?=some u:=fun k u o=>by
  show (my rs++ps)[k]?=_
  rw[wk (rq.1 o).1];exact o
 exact h.dif (i+2) (j+2) v v' iu (e i v hi) (e j v' hj) b hb
theorem pC.Qo (h:pC n1 F w vS vG rs gs ps) {i:Nat} {v:Value} (hi:(my rs)[i]?=some v) {b:Nat} (hb:v.ownBlock=some b):vS.ownBlock≠some b/\vG.ownBlock≠some b:=by
 have e:(ng vS vG rs ps)[i+2]?=some v:=by
  show (my rs++ps)[i]?=_
  rw[wk (rq.1 hi).1];exact hi
 exact⟨h.dif (i+2) 0 v vS iu e rfl b hb,h.dif (i+2) 1 v vG iu e rfl b hb⟩
theorem JJ {j:Nat} {r r':SR} (hr:rs[j]?=some r) (h1:r'.st.unl.val=r.st.unl.val) (h2:r'.st.unt.val=r.st.unt.val):my (rs.set j r')=my rs:=
 te _ rs j r r' hr (by rw[h1,h2])
theorem pC.jx (h:pC n1 F w vS vG rs gs ps) {j g i:Nat} {r r':SR} {x:Value} (hr:rs[j]?=some r) (hF:F g=true) (h1:r'.st.unl.val=r.st.unl.val) (h2:r'.st.unt.val=r.st.unt.val) (hc:sN r'=sN r) (hok:∀W,Mc W r->Mc W r')
  (hS:vS.ownBlock≠some g) (hG:vG.ownBlock≠some g)
  (hu:pP n1 223 8 kx vo F (w.setCell (g,i) x) r'.st.unl.val r'.st.unl.l) (hv:pP n1 223 8 kx vo F (w.setCell (g,i) x) r'.st.unt.val r'.st.unt.l)
  (hne:∀(i:Nat) (r0:SR),i≠j->rs[i]?=some r0->r0.st.unl.val.ownBlock≠some g/\r0.st.unt.val.ownBlock≠some g):pC n1 F (w.setCell (g,i) x) vS vG (rs.set j r') gs ps:=by
 have R:=(rq.1 hr).1;have I:=h.st.lW sT hF hS i x;refine⟨h.fam.after (lI (jc ..).symm),⟨by rw[Gh,te _ rs j r r' hr hc];exact I.own,I.cov,fun y J=>?_⟩,h.go.lW vp hF hG i x,fun k r0 o=>?_,fun k r0 o=>?_,h.pc,?_⟩
 ·rcases Lj J with J | J
  ·exact I.inn y J
  subst J;exact hok _ (I.inn r (om hr))
 ·rw[I']at o
  split at o
  ·try rw[iG R]at o
   injection o with o;subst o;exact hu
  exact (h.un k r0 o).lW jF hF (hne k r0 iu o).1 i x
 ·rw[I']at o
  split at o
  ·try rw[iG R]at o
   injection o with o;subst o;exact hv
  exact (h.ut k r0 o).lW jF hF (hne k r0 iu o).2 i x
 unfold ng;rw[JJ hr h1 h2];exact h.dif
theorem pC.Rw (h:pC n1 F w vS vG rs gs ps) {j k g:Nat} {r:SR} {t:ma} (hr:rs[j]?=some r) (hA:r.st.unl.A=some ⟨g,0,none⟩) (hk:r.st.unl.l[k]?=some t) (z:Int):pC n1 F (w.setCell (g,k*8+6) (.int .i64 z)) vS vG (rs.set j (r.vf k z)) gs ps:=by
 have o:=qq hr;have I:r.st.unl.val.ownBlock=some g:=by unfold nB.val;rw[hA];rfl
 have R:=(h.un j r hr).cov g I;obtain⟨e1,e2⟩:=NZ r k z;have p:=qG r.st k z;obtain⟨hS,hG⟩:=h.Qo o.1 I;refine h.jx hr R e1 e2 (Lg r k z) (fun W hW=>QT hW k z) hS hG ?_ ?_ fun i r0 hi J=>?_
 ·rw[e1]
  show pP _ _ _ _ _ _ _ _ (r.st.vf k z).unl.l
  rw[p.2.2.2.2.2.2.1,Hv hk];exact (h.un j r hr).Ok jF sf (by unfold nB.val;rw[hA]) hk iI (Dd t z) (Kg ((h.un j r hr).inn t (om hk)) z)
 ·rw[e2]
  show pP _ _ _ _ _ _ _ _ (r.st.vf k z).unt.l
  rw[p.2.2.2.2.2.2.2];exact (h.ut j r hr).lW jF R (h.AH iu o.1 o.2 I) _ _
 have U:=qq J;exact⟨h.AH iu o.1 U.1 I,h.AH iu o.1 U.2 I⟩
theorem pC.Rx (h:pC n1 F w vS vG rs gs ps) {j k g:Nat} {r:SR} {t:ma} (hr:rs[j]?=some r) (hA:r.st.unt.A=some ⟨g,0,none⟩) (hk:r.st.unt.l[k]?=some t) (z:Int):pC n1 F (w.setCell (g,k*8+6) (.int .i64 z)) vS vG (rs.set j (r.uE k z)) gs ps:=by
 have o:=qq hr;have I:r.st.unt.val.ownBlock=some g:=by unfold nB.val;rw[hA];rfl
 have R:=(h.ut j r hr).cov g I;obtain⟨e1,e2⟩:=MD r k z;have p:=qN r.st k z;obtain⟨hS,hG⟩:=h.Qo o.2 I;refine h.jx hr R e1 e2 (Lc r k z) (fun W hW=>Q7 hW k z) hS hG ?_ ?_ fun i r0 hi J=>?_
 ·rw[e1]
  show pP _ _ _ _ _ _ _ _ (r.st.uE k z).unl.l
  rw[p.2.2.2.2.2.2.1];exact (h.un j r hr).lW jF R (h.AH iu o.2 o.1 I) _ _
 ·rw[e2]
  show pP _ _ _ _ _ _ _ _ (r.st.uE k z).unt.l
  rw[p.2.2.2.2.2.2.2,Hv hk];exact (h.ut j r hr).Ok jF sf (by unfold nB.val;rw[hA]) hk iI (Dd t z) (Kg ((h.ut j r hr).inn t (om hk)) z)
 have U:=qq J;exact⟨h.AH iu o.2 U.1 I,h.AH iu o.2 U.2 I⟩
theorem sa.Df {S:Prop} {W:yM} {b:Nat}:∀{l:List AuT} {o:Nat},(∀(i:Nat) y,l[i]?=some y->xM S W b (o+i*1) y)->sa S W b o l
 |[],o,_=>by rw[sa];trivial
 |y::l,o,h=>by
  rw[sa];have h0:=h 0 y rfl;rw[zH,xP]at h0;refine⟨h0.1,h0.2,sa.Df fun i z hz=>?_⟩;have:=h (i+1) z (by simpa using hz);rwa [show o+(i+1)*1=o+1+i*1 by omega]at this
theorem sd.Df {W:yM} {b:Nat}:∀{l:List SR} {o:Nat},(∀(i:Nat) y,l[i]?=some y->Bp W b (o+i*6) y.st/\tY True W y.st)->sd True W b o (l.map SR.st)
 |[],o,_=>by rw[tW,sd];trivial
 |y::l,o,h=>by
  rw[mJ,sd];have h0:=h 0 y rfl;rw[zH,xP]at h0;refine⟨h0.1,h0.2,sd.Df fun i z hz=>?_⟩;have:=h (i+1) z (by simpa using hz);rwa [show o+(i+1)*6=o+6+i*6 by omega]at this
theorem pC.au {A:zA} {c:Nat} (h:pC n1 F w (.slice A rs c) vG rs gs ps) (hl:rs.length<=8) (hu:∀(i:Nat) (r:SR),rs[i]?=some r->r.st.unl.l.length<=4/\r.st.unt.l.length<=4):FC (old n1 w) (.mk A c (rs.map SR.st)):=by
 have hR:=h.st.row sT h.fam.low (fun _=>rfl) iu fun W b o y J I=>Ja J I
 have hS:∀(i:Nat) (r:SR),rs[i]?=some r->tY True (old n1 w) r.st:=fun i r hi=>by
  have a1:=om hi;have R:=sT.sub _ _ _ (sZ w h.fam.low) (h.st.inn r a1);have hP:∀W b o (y:ma),vo W y->(∀j u,(kx y)[j]?=some u->W.cell? ⟨b,o+j,none⟩=some u)->Eo True W b o y:=fun W b o y J I=>
   ⟨fun x hx=>Int.le_trans (J.tb x hx) iI,fun _=>jW J.sz iI,⟨I 0 _ rfl,I 1 _ rfl,I 2 _ rfl,I 3 _ rfl,I 4 _ rfl,I 5 _ rfl⟩,I 6 _ rfl,I 7 _ rfl,J.co⟩
  have a7:=(h.un i r hi).row jF h.fam.low sf (by have:=(hu i r hi).1;omega) hP;have a6:=(h.ut i r hi).row jF h.fam.low sf (by have:=(hu i r hi).2;omega) hP;obtain⟨st,ug,vg⟩:=r;cases st with
  |mk n l e A' c' a u v=>
  rw[tY];refine⟨jW R.nm iI,R.lo,R.eq,a7,a6,R.au.le,R.au.cap,R.au.len,?_⟩;rcases R.au.cells with U | ⟨b,p,U,hlt,hc⟩
  ·exact .inl U
  exact .inr ⟨b,p,U,hlt,sa.Df hc⟩
 unfold FC;rw[zS];refine⟨by rw[pE];exact hR.le,hR.cap,by rw[pE];exact hR.len,?_⟩;rcases hR.cells with U | ⟨b,p,U,hlt,hc⟩
 ·exact .inl (by show rs.map SR.st=[];rw[show rs=[] from U];rfl)
 exact .inr ⟨b,p,U,hlt,sd.Df fun i y J=>⟨hc i y J,hS i y J⟩⟩
end
section
open Go.Proofs.Tryz
def jb (rs:List SR):List (nB Gl):=rs.flatMap fun r=>[r.ug,r.vg]
theorem tU:∀{rs:List SR} {i:Nat} {r:SR},rs[i]?=some r->(jb rs)[2*i]?=some r.ug/\(jb rs)[2*i+1]?=some r.vg
 |[],i,r,h=>by simp at h
 |a::rs,0,r,h=>by
  simp at h;subst h;exact⟨rfl,rfl⟩
 |a::rs,i+1,r,h=>by
  have ih:=tU (rs:=rs) (i:=i) (r:=r) (by simpa using h);show ((_::_::jb rs):List (nB Gl))[2*(i+1)]?=_/\((_::_::jb rs):List (nB Gl))[2*(i+1)+1]?=_
  rw[show 2*(i+1)=2*i+1+1 by omega];exact ih
theorem uj (rs:List SR):(jb rs).length=2*rs.length:=by
 induction rs with
 |nil=>rfl
 |cons a rs ih=>show (jb rs).length+1+1=_;rw[ih,py];omega
theorem Ha (rs:List SR) (r:SR):jb (rs++[r])=jb rs++[r.ug,r.vg]:=by
 unfold jb;rw[Fa];rfl
theorem zK {rs:List SR} {j:Nat} {r r':SR} (hr:rs[j]?=some r) (h1:r'.ug=r.ug) (h2:r'.vg=r.vg):jb (rs.set j r')=jb rs:=
 te _ rs j r r' hr (by rw[h1,h2])
def tq (rs:List SR):Prop:=∀(i:Nat) (r:SR),rs[i]?=some r->r.st.unl.l.length=r.ug.l/\r.st.unt.l.length=r.vg.l/\r.st.unl.l.length<=4/\r.st.unt.l.length<=4
theorem tq.app {rs:List SR} {r:SR} (h:tq rs) (h1:r.st.unl.l.length=r.ug.l) (h2:r.st.unt.l.length=r.vg.l) (h3:r.st.unl.l.length<=4) (h4:r.st.unt.l.length<=4):tq (rs++[r]):=fun i r' hi=>by
 rcases qa i rs with h5 | h5
 ·rw[wk h5]at hi;exact h i r' hi
 rw[xK h5]at hi;have e:=om hi;simp only[la]at e;subst e;exact⟨h1,h2,h3,h4⟩
theorem tq.set {rs:List SR} {j:Nat} {r r':SR} (h:tq rs) (hr:rs[j]?=some r) (h1:r'.st.unl.l.length=r.st.unl.l) (h2:r'.st.unt.l.length=r.st.unt.l) (h3:r'.ug=r.ug) (h4:r'.vg=r.vg):tq (rs.set j r'):=fun i r0 hi=>by
 rw[I']at hi;split at hi
 ·split at hi
  ·injection hi with hi
   subst hi;obtain⟨k1,k2,k3,k4⟩:=h j r hr;rw[h1,h2,h3,h4];exact⟨k1,k2,k3,k4⟩
  cases hi
 exact h i r0 hi
theorem JU (r:SR) (k:Nat) (z:Int):(r.vf k z).st.unl.l.length=r.st.unl.l.length/\(r.vf k z).st.unt.l.length=r.st.unt.l.length:=by
 obtain⟨h1,h2,U,R,J,I,o,j⟩:=qG r.st k z;unfold SR.vf;simp only[o,j,AE,List.length_modify,and_self]
theorem J4 (r:SR) (k:Nat) (z:Int):(r.uE k z).st.unl.l.length=r.st.unl.l.length/\(r.uE k z).st.unt.l.length=r.st.unt.l.length:=by
 obtain⟨h1,h2,U,R,J,I,o,j⟩:=qN r.st k z;unfold SR.uE;simp only[o,j,AE,List.length_modify,and_self]
def uP (names:List yB) (rs:List SR) (i k:Nat):Prop:=∀(j:Nat) (r:SR) (k':Nat) (t:ma) (g:Gl),rs[j]?=some r ->
 ((2*j<i\/2*j=i/\k'<k)->r.st.unl.l[k']?=some t->r.ug.l[k']?=some g->∃z:Nat,vM g.1 names 0=some z/\t.dst=(z:Int)) /\
 ((2*j+1<i\/2*j+1=i/\k'<k)->r.st.unt.l[k']?=some t->r.vg.l[k']?=some g->∃z:Nat,vM g.1 names 0=some z/\t.dst=(z:Int))
theorem uP.start (names:List yB) (rs:List SR):uP names rs 0 0:=fun j r k' t g _=>⟨fun h=>by omega,fun h=>by omega⟩
theorem uP.next {names:List yB} {rs:List SR} {i k:Nat} (h:uP names rs i k) (hk:∀g,(jb rs)[i]?=some g->g.l.length<=k):uP names rs (i+1) 0:=fun j r k' t g hr=>by
 obtain⟨h1,h2⟩:=h j r k' t g hr;have hg:=tU hr;refine⟨fun hc ht hgk=>h1 ?_ ht hgk,fun hc ht hgk=>h2 ?_ ht hgk⟩
 ·by_cases e:2*j=i
  ·have:=hk r.ug (by rw[<- e];exact hg.1)
   have:=(rq.1 hgk).1;exact .inr ⟨e,iu⟩
  exact .inl iu
 by_cases e:2*j+1=i
 ·have:=hk r.vg (by rw[<- e];exact hg.2)
  have:=(rq.1 hgk).1;exact .inr ⟨e,iu⟩
 exact .inl iu
theorem Ef {l:List ma} {k k':Nat} {t:ma} {z:Int} (h:(l.modify k (fun t=>t.goto z))[k']?=some t):if k=k' then t.dst=z/\∃t0,l[k']?=some t0 else l[k']?=some t:=by
 rw[List.getElem?_modify]at h;split
 ·rename_i e
  cases hl:l[k']? with
  |none=>rw[hl]at h;cases h
  |some t0=>
  rw[hl]at h;simp only[e,if_true,Option.map_eq_map,Option.map_some,Option.some.injEq]at h;subst h;exact⟨rfl,t0,rfl⟩
 rename_i e
 simpa[e] using h
theorem uP.Rw {names:List yB} {rs:List SR} {j k:Nat} {r:SR} {g:Gl} {z:Nat} (h:uP names rs (2*j) k) (hr:rs[j]?=some r) (hg:r.ug.l[k]?=some g) (hz:vM g.1 names 0=some z):uP names (rs.set j (r.vf k z)) (2*j) (k+1):=fun i r0 k' t g' hi=>by
 rw[I']at hi;split at hi
 ·rename_i e
  subst e;split at hi
  ·injection hi with hi
   subst hi;obtain⟨h1,h2,h3,h4,h5,h6,h7,h8⟩:=qG r.st k (z:Int);refine⟨fun hc ht hg'=>?_,fun hc=>by omega⟩;have ht':(r.st.unl.l.modify k (fun t=>t.goto z))[k']?=some t:=by
    have I:(r.vf k z).st.unl.l[k']?=some t:=ht;unfold SR.vf at I;simp only[h7]at I;exact I
   have I:=Ef ht';have o:r.ug.l[k']?=some g':=hg';split at I
   ·rename_i e
    subst e;rw[hg]at o;injection o with o
    subst o;exact⟨z,hz,I.1⟩
   exact (h j r k' t g' hr).1 iu I o
  cases hi
 rename_i e
 obtain⟨h1,h2⟩:=h i r0 k' t g' hi;exact⟨fun hc=>h1 iu,fun hc=>h2 iu⟩
theorem uP.Rx {names:List yB} {rs:List SR} {j k:Nat} {r:SR} {g:Gl} {z:Nat} (h:uP names rs (2*j+1) k) (hr:rs[j]?=some r) (hg:r.vg.l[k]?=some g) (hz:vM g.1 names 0=some z):uP names (rs.set j (r.uE k z)) (2*j+1) (k+1):=fun i r0 k' t g' hi=>by
 rw[I']at hi;split at hi
 ·rename_i e
  subst e;split at hi
  ·injection hi with hi
   subst hi;obtain⟨h1,h2,h3,h4,h5,h6,h7,h8⟩:=qN r.st k (z:Int);refine⟨fun hc ht hg'=>?_,fun hc ht hg'=>?_⟩
   ·have h9:r.st.unl.l[k']?=some t:=by
     have h9:(r.uE k z).st.unl.l[k']?=some t:=ht;unfold SR.uE at h9;simp only[h7]at h9;exact h9
    exact (h j r k' t g' hr).1 iu h9 hg'
   have I:(r.st.unt.l.modify k (fun t=>t.goto z))[k']?=some t:=by
    have h9:(r.uE k z).st.unt.l[k']?=some t:=ht;unfold SR.uE at h9;simp only[h8]at h9;exact h9
   have h9:=Ef I;have o:r.vg.l[k']?=some g':=hg';split at h9
   ·rename_i e
    subst e;rw[hg]at o;injection o with o
    subst o;exact⟨z,hz,h9.1⟩
   exact (h j r k' t g' hr).2 iu h9 o
  cases hi
 rename_i e
 obtain⟨h1,h2⟩:=h i r0 k' t g' hi;exact⟨fun hc=>h1 iu,fun hc=>h2 iu⟩
theorem EV {names:List yB}:∀{l:List ma} {g:List Gl},l.length=g->(∀(k:Nat) (t:ma) (x:Gl),l[k]?=some t->g[k]?=some x->∃z:Nat,vM x.1 names 0=some z/\t.dst=(z:Int))->(yv l g).mapM (yp names)=some (l.map ma.er)
 |[],[],_,_=>rfl
 |t::l,x::g,hl,h=>by
  obtain⟨z,hz,hd⟩:=h 0 t x rfl rfl;have ih:=EV (names:=names) (l:=l) (g:=g) (by simpa using hl) fun k t' x' ht hx=>h (k+1) t' x' (by simpa using ht) (by simpa using hx)
  show ((wo.mk t.cond.er t.res x.1)::yv l g).mapM (yp names)=_
  rw[Cx,ih];unfold yp;rw[hz];show some ((⟨t.cond.er,(z:Int),t.res⟩:Qb)::l.map ma.er)=some (List.map ma.er (t::l))
  rw[<- hd];rfl
theorem Fy {names:List yB}:∀{l:List ma} {g:List Gl} {k:Nat} {x:Gl},l.length=g->g[k]?=some x->vM x.1 names 0=none->(yv l g).mapM (yp names)=none
 |[],[],k,x,_,h,_=>by simp at h
 |t::l,y::g,0,x,hl,h,hx=>by
  simp at h;subst h;show ((wo.mk t.cond.er t.res y.1)::yv l g).mapM (yp names)=_
  rw[Cx];unfold yp;rw[hx];rfl
 |t::l,y::g,k+1,x,hl,h,hx=>by
  have ih:=Fy (names:=names) (l:=l) (g:=g) (k:=k) (x:=x) (by simpa using hl) (by simpa using h) hx;show ((wo.mk t.cond.er t.res y.1)::yv l g).mapM (yp names)=_
  rw[Cx,ih];cases yp names (wo.mk t.cond.er t.res y.1)<;>rfl
theorem F_ {α β:Type} {f:α->Option β} {g:α->β}:∀{l:List α},(∀x∈l,f x=some (g x))->l.mapM f=some (l.map g)
 |[],_=>rfl
 |a::l,h=>by
  rw[Cx,h a (nG ..),F_ fun x hx=>h x (qj _ hx)];rfl
theorem EC {α β:Type} {f:α->Option β}:∀{l:List α} {a:α},a∈l->f a=none->l.mapM f=none
 |[],a,h,_=>by cases h
 |b::l,a,h,hf=>by
  rw[Cx];rcases uW.1 h with h | h
  ·subst h;rw[hf];rfl
  rw[EC h hf];cases f b<;>rfl
theorem Sn (x:StT):x.er=.mk x.name (x.locals.l.map iO.er) (x.eqs.l.map oX.er) (AuT.kv x.autos) (x.unl.l.map ma.er) (x.unt.l.map ma.er):=by
 cases x;rw[StT.er];rfl
theorem uP.all {names:List yB} {rs:List SR} {i:Nat} (h:uP names rs i 0) (hi:2*rs<=i) (hl:tq rs):(rs.map SR.sn).mapM (wW names)=some (StT.kv (rs.map SR.st)):=by
 rw[Rs,xZ];have R:∀r∈rs,wW names r.sn=some r.st.er:=fun r hr=>by
  obtain⟨j,o⟩:=List.mem_iff_getElem?.1 hr;have a1:=(rq.1 o).1;obtain⟨k1,U,k3,k4⟩:=hl j r o;have hu:=EV (names:=names) k1 fun k t x J I=>(h j r k t x o).1 (by omega) J I
  have hv:=EV (names:=names) U fun k t x J I=>(h j r k t x o).2 (by omega) J I
  unfold wW SR.sn;simp only[];rw[hu,hv,Sn,QP];rfl
 have:(rs.map SR.sn).mapM (wW names)=rs.mapM (fun r=>wW names r.sn):=by
  clear h hi hl R;induction rs with
  |nil=>rfl
  |cons a rs ih=>rw[mJ,Cx,Cx,ih]
 rw[this];exact F_ (g:=fun (r:SR)=>r.st.er) R
theorem L5 {names:List yB} {rs:List SR} {i k:Nat} {g:nB Gl} {x:Gl} (hl:tq rs) (hg:(jb rs)[i]?=some g) (hx:g.l[k]?=some x) (hn:vM x.1 names 0=none):(rs.map SR.sn).mapM (wW names)=none:=by
 have hi:i<2*rs:=by rw[<- uj];exact (rq.1 hg).1
 have J:i / 2<rs:=iu;have I:=qn J;obtain⟨U,R,k3,k4⟩:=hl _ _ I;have j:=tU I;refine EC (a:=(rs[i / 2]).sn) (yQ.2 ⟨_,Fq J,rfl⟩) ?_;unfold wW SR.sn;simp only[];rcases Nat.mod_two_eq_zero_or_one i with e | e
 ·have o:2*(i / 2)=i:=iu
  rw[o,hg]at j;have:=j.1;injection this with this
  subst this;rw[Fy U hx hn];rfl
 have o:2*(i / 2)+1=i:=iu;rw[o,hg]at j;have:=j.2;injection this with this
 subst this;rw[Fy R hx hn];cases (yv (rs[i / 2]).st.unl.l (rs[i / 2]).ug.l).mapM (yp names)<;>rfl
theorem N0 {rs:List SR} {i:Nat} {g:nB Gl} (hl:tq rs) (hg:(jb rs)[i]?=some g):g.l.length<=4:=by
 have hi:i<2*rs:=by rw[<- uj];exact (rq.1 hg).1
 have hj:i / 2<rs:=iu;have I:=qn hj;obtain⟨k1,U,R,J⟩:=hl _ _ I;have j:=tU I;rcases Nat.mod_two_eq_zero_or_one i with e | e
 ·have o:2*(i / 2)=i:=iu
  rw[o,hg]at j;have:=j.1;injection this with this
  rw[this,<- k1];exact R
 have o:2*(i / 2)+1=i:=iu;rw[o,hg]at j;have:=j.2;injection this with this
 rw[this,<- U];exact J
theorem Nh {w:yM} {n1 sz:Nat} {T:TypeId} {y:nB ma} {xs:zO} (h:w.ownsRow n1 T sz y.val y.l xs) (h0:0<y.l.length):∃g,y.A=some ⟨g,0,none⟩:=by
 rcases h.2 with⟨_,h1⟩ | ⟨g,cap,cur,hv,_⟩
 ·omega
 unfold nB.val at hv;injection hv with e1
 exact⟨g,e1⟩
theorem Gq {w:yM} {n1:Nat} {T:TypeId} {y:nB ma} {k g:Nat} {t:ma} (h:w.ownsRow n1 T 8 y.val y.l (y.l.flatMap kx)) (hA:y.A=some ⟨g,0,none⟩) (hk:y.l[k]?=some t):w.cell? (g,k*8+6)=t.dst:=by
 have o:(y.l.flatMap kx)[k*8+6]?=t.dst:=by
  have j:∀(l:List ma) (i:Nat),l[i]?=some t->(l.flatMap kx)[i*8+6]?=t.dst:=by
   intro l;induction l with
   |nil=>intro i h;simp at h
   |cons a l ih=>
   intro i h;rw[pZ];cases i with
   |zero=>
    simp at h;subst h;rfl
   |succ i=>
   rw[xK (by rw[sf];omega),sf,show (i+1)*8+6-8=i*8+6 by omega];exact ih i (by simpa using h)
  exact j _ _ hk
 unfold nB.val at h;rw[hA]at h;have:=h.cells (g:=g) rfl _ _ o;rwa [yb,t_]at this
def su (s:yB) (r:SR):Bool:=r.st.name.toList==s.toList
theorem Kw (s:yB):∀(l:List SR) (k:Nat),FW (su s) l k=match vM s (l.map fun r=>r.st.name) k with | some j=>(j:Int) | none=>-1
 |[],k=>rfl
 |u::l,k=>by
  rw[FW,mJ,vM];by_cases h:u.st.name=s
  ·rw[iG h,iG (by unfold su;rw[h];exact beq_self_eq_true _)]
  rw[iV h,iV (by unfold su;simp only[beq_iff_eq];exact fun e=>h (toList_inj e)),Kw s l (k+1)]
theorem Kr {s:yB}:∀{l:List yB} {k j:Nat},vM s l k=some j->k<=j/\j<k+l
 |[],k,j,h=>by cases h
 |u::l,k,j,h=>by
  rw[vM]at h;split at h
  ·injection h with h;subst h;rw[py];omega
  have:=Kr h;rw[py];omega
def P6 (W:yM) (b o:Nat) (r:SR):Prop:=Bp W b o r.st
theorem N4:tO P6:=fun w w' b o y hb hlt h=>Bp.keep hb hlt h
theorem LG {w0:yM} {gs:Nat} {s:yB} (k0:w0.cell? gs=s) (l0:Le (gs+1) w0) (nm:yB) (v1 v2 v3 v4 v5:Value) (w:yM) (hw:ik w0 w) :
  Calls prog 155 #[.agg #[nm,v1,v2,v3,v4,v5],.pointer (some gs)] w fun e w'=>e=.returned (.bool (nm.toList==s.toList))/\∃y,w'=w.more y:=by
 have J:=(hw.below.cell (p:=gs) l0.le).trans k0;have I:Le (gs+1) w:=⟨jW l0.le hw.below.size⟩;obtain⟨q,j⟩:=jt ((nm.toList==s.toList));have o:Hid ((nm.toList==s.toList)=q):=j;go_in;go_wp2_with fail;go_ret;exact⟨iK (by first | rfl | rw[o.out]),jP _ _⟩
theorem QY {w0:yM} {gs:Nat} {s:yB} (k0:w0.cell? gs=s) (l0:Le (gs+1) w0) {nA:zA} {nc:Nat} {nl:List SR} (hnd:ir 6 P6 w0 ⟨nA,nc,nl⟩) (w:yM) (hw:ik w0 w) :
  Calls prog 139 #[(nA,nl,nc),.func (.func 155) #[] #[.pointer (some gs)]] w fun e w'=>e=.returned (.int .i64 (FW (su s) nl 0))/\∃y,w'=w.more y:=by
 have HF:Hid (∀(nm:yB) (v1 v2 v3 J I:Value),∀U,ik w0 U->Calls prog 155 #[.agg #[nm,v1,v2,v3,J,I],.pointer (some gs)] U fun e w'=>e=.returned (.bool (nm.toList==s.toList))/\∃y,w'=U.more y):=fun nm v1 v2 v3 J I U hU=>LG k0 l0 nm v1 v2 v3 J I U hU
 have a':=iy hnd;have a_:=hnd.len;simp only[]at a_;obtain⟨R,hR⟩:=jt (FW (su s) nl 0);have HV:=iy hR;rw[hR];go_in;go_wp2_with fail;go_loopw [8] (fun i wr=>∃j:Nat,j<=nl.length/\i=.int .i64 (j:Nat)/\Hid ((nl.take j).any (su s)=false)/\ik w wr) (fun i _=>nl.length-(intOf i).toNat)
 ·exact⟨0,iu,rfl,iy (by simp),iR⟩
 case round=>
 obtain⟨j,hj,rfl,HJ,ar⟩:=hrel;have a7:=ij hw ar;by_cases a6:j<nl
 ·have a1:(j:Int)<(nl:Int):=iu
  obtain⟨b,p,o,rfl,aa,HY,hP⟩:=(a'.below N4 a7.below).part (i:=j) a6;obtain⟨z0,z1,z2,z3,z4,z5⟩:=hP;generalize ah:Value.slice o.st.locals.A o.st.locals.l.length o.st.locals.c=v1 at z1;generalize ag:Value.slice o.st.eqs.A o.st.eqs.l.length o.st.eqs.c=v2 at z2;generalize af:Value.slice o.st.ad o.st.autos.length o.st.cap=v3 at z3;generalize ae:Value.slice o.st.unl.A o.st.unl.l.length o.st.unl.c=J at z4;generalize ab:Value.slice o.st.unt.A o.st.unt.l.length o.st.unt.c=I at z5;have HC:=iy (HF o.st.name v1 v2 v3 J I wr a7);obtain⟨q,hq⟩:=jt (su s o);have HQ:=iy hq;unfold su at hq;rw[hq]at HC;obtain⟨nm,a8⟩:=jt (o.st.name);rw[a8]at HC z0;cases q with
  |true=>
   have HE:Hid (R=(j:Int)):=iy (by rw[<- HV.out];exact (Jk _ 0 HY HJ HQ).trans iu);go_wp2_with fail;refine HC.mono ?_;rintro e w' ⟨rfl,y,rfl⟩;go_wp2_with fail;go_ret;exact⟨by rw[HE.out];rfl,have:=ar;jP _ _⟩
  |false=>
  go_wp2_with fail;refine HC.mono ?_;rintro e w' ⟨rfl,y,rfl⟩;go_wp2_with fail;go_roundw
  case rel=>exact⟨j+1,iu,by go_num,iy (G7 _ HY HJ HQ),have:=ar;iR⟩
  case measure=>simp only[intOf];omega
 have a1:¬((j:Int)<(nl:Int)):=iu;have HE:Hid (R=-1):=iy (by rw[<- HV.out];exact BX _ nl 0 (JM _ a6 HJ));go_wp2_with fail;go_ret;exact⟨by rw[HE.out];rfl,have:=ar;jP _ _⟩
end
end Go.Proofs.YtnigblndonocfaaGreatDoor
