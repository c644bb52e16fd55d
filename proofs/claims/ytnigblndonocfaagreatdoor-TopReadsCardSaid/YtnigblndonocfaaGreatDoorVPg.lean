/- A part of the proof. -/
import Derived.Test.YtnigblndonocfaaGreatDoorWPr
set_option linter.unusedVariables false
set_option linter.unusedSimpArgs false
namespace Go.Proofs.YtnigblndonocfaaGreatDoor
open Go.RowKit Go.BigFrame
section
structure pw (el el':List iW):Prop where
 al:x_ el el'
 ix:∀s,uv s el' 0=uv s el 0
theorem Ga:∀n:Nat,toks (List.replicate n (.sp 32))=[]
 |0=>rfl
 |n+1=>by rw[L6,jT,Ga n]
theorem sv (k:Nat) (P:List Pc):toks (rL k P)=toks P:=by
 unfold rL;rw[iN,iN,Ga,jT,po,sb,oV]
theorem Kb {s:ByteArray}:∀{l:List iW} {k j:Nat},uv s l k=some j->∃i u,j=k+i/\l[i]?=some u/\u.name=s
 |[],k,j,h=>by cases h
 |u::l,k,j,h=>by
  unfold uv at h;by_cases hu:u.name=s
  ·rw[iG hu]at h
   injection h with h
   exact⟨0,u,h.symm,rfl,hu⟩
  rw[iV hu]at h;obtain⟨i,u',h1,h2,h3⟩:=Kb h;exact⟨i+1,u',iu,by simpa using h2,h3⟩
theorem Kz {s:ByteArray}:∀{l:List ByteArray} {k j:Nat},vM s l k=some j->∃i,j=k+i/\l[i]?=some s
 |[],k,j,h=>by cases h
 |u::l,k,j,h=>by
  unfold vM at h;by_cases hu:u=s
  ·rw[iG hu]at h
   injection h with h
   exact⟨0,h.symm,by rw[hu];rfl⟩
  rw[iV hu]at h;obtain⟨i,h1,h2⟩:=Kz h;exact⟨i+1,iu,by simpa using h2⟩
section
variable {el el':List iW}
theorem Jv (hA:pw el el') {o:sO} (hE:vR el o=0) (hG:RC el o):∃tl,toks (Lk el o)=⟨3,⟨#[119,104,101,110]⟩⟩::tl/\∀r,mD el' (tl++r)=some (o,r):=by
 obtain⟨h1,R,J,I⟩:=Fb hE;obtain⟨j,e1,U,-,-⟩:=Bt hA.al R J I hG;refine⟨j::⟨4,⟨#[40]⟩⟩::⟨1,o.name⟩::[⟨4,⟨#[41]⟩⟩],?_,fun r=>?_⟩
 ·unfold Lk FX
  rw[pd,jT,iN,e1];rfl
 show mD el' (j::⟨4,⟨#[40]⟩⟩::⟨1,o.name⟩::⟨4,⟨#[41]⟩⟩::r)=_
 unfold mD;rw[U];show (iF [⟨#[40]⟩] (⟨4,⟨#[40]⟩⟩::_)).bind _=_
 rw[lJ [40]];show (iF [⟨#[41]⟩] (⟨4,⟨#[41]⟩⟩::r)).bind _=_
 rw[lJ [41]];rfl
theorem yd:∀l:List sO,toks (o_ el l)=l.flatMap fun o=>toks (Lk el o)
 |[]=>rfl
 |[a]=>by show toks (Lk el a)=toks (Lk el a)++[];rw[oV]
 |a::b::l=>by
  have ih:=yd (b::l);unfold o_ at ih⊢;rw[mJ,mJ,mq,iN,iN,<- mJ,ih];show toks (Lk el a)++[]++_=_
  rw[oV];rfl
theorem Hn (hA:pw el el'):∀(l acc:List sO) (m:Nat) (r:List Tk),iw (vR el) l=0->(∀o∈l,RC el o)->l.length<=m->jq ⟨#[119,104,101,110]⟩ r=false ->
  pX el' m acc (toks (o_ el l)++r)=some (acc++l,r)
 |[],acc,m,r,_,_,_,hr=>by
  show pX el' m acc r=_
  unfold pX;rw[hr,iV iI,oV]
 |a::l,acc,m,r,hE,hG,hm,hr=>by
  rw[iw]at hE;obtain⟨h1,h2⟩:=jI hE;obtain⟨tl,e1,e2⟩:=Jv hA h1 (hG a nG);obtain⟨m,rfl⟩:∃j,m=j+1:=⟨m-1,by rw[py]at hm;omega⟩;have ih:=Hn hA l (acc++[a]) m r h2 (fun o ho=>hG o (qj _ ho)) (by rw[py]at hm;omega) hr;rw[yd,pZ,e1,kD,lP];rw[yd]at ih;unfold pX;rw[jk,iG iI,ry,e2];show pX el' m (acc++[a]) _=_
  rw[ih,kD];rfl
theorem PN (hA:pw el el') {t:Int} (ht:qS el t) (hG:Tf el t) (r:List Tk):∃tk,toks [F6 el t]=[tk]/\Ma el' (tk::r)=some (t,r):=by
 unfold F6;by_cases I:t=1
 ·rw[iG I]
  refine⟨⟨3,⟨#[98,111,111,108]⟩⟩,rfl,?_⟩;unfold Ma;rw[jk,iG iI,I];rfl
 rw[iV I];by_cases o:t=2
 ·rw[iG o]
  refine⟨⟨3,⟨#[105,110,116]⟩⟩,rfl,?_⟩;unfold Ma;rw[jk,iV iI,jk,iG iI,o];rfl
 rw[iV o];have h3:3<=t:=by
  rcases ht with h | h | h
  ·exact absurd h I
  ·exact absurd h o
  exact h.1
 obtain⟨s,j,J,h5⟩:=hG h3;obtain⟨i,u,h6,U,R⟩:=Kb J;rw[show (t-3).toNat=i by omega,U];refine⟨⟨1,u.name⟩,rfl,?_⟩;unfold Ma;rw[uy,uy,iV iI,iV iI];show (match uv u.name el' 0 with | some j=>some (3+(j:Int),r) | none=>none)=_
 rw[hA.ix,R,J,h5]
theorem xD (hA:pw el el') {d:iO} {port:Bool} (hE:jN el port d=0) (hG:Kx el d.er) {r:List Tk} (hr:jq ⟨#[119,104,101,110]⟩ r=false) :
  ∃tl,toks (pv el d)=⟨1,d.name⟩::tl/\wG el' (toks (pv el d)++r)=some (d.er,r):=by
 obtain⟨h1,R,J,I⟩:=yL hE;have o:toks (if d.clock.l.length=0 then [] else .sp 32::o_ el d.clock.l)=toks (o_ el d.clock.l):=by
  split
  ·rename_i h0
   rw[B_ h0];rfl
  rw[jT]
 obtain⟨j,e1,U⟩:=PN hA R hG.1 (toks (o_ el d.clock.l)++r);have hp:toks (pv el d)=⟨1,d.name⟩::⟨4,⟨#[58]⟩⟩::j::toks (o_ el d.clock.l):=by
  unfold pv;rw[um,lK,jT,show ∀q:List Pc,F6 el d.ty::q=[F6 el d.ty]++q from fun _=>rfl,iN,e1,o];rfl
 refine⟨_,hp,?_⟩;rw[hp];show wG el' (⟨1,d.name⟩::⟨4,⟨#[58]⟩⟩::j::(toks (o_ el d.clock.l)++r))=_
 unfold wG;show (iF [⟨#[58]⟩] (⟨4,⟨#[58]⟩⟩::_)).bind _=_
 rw[lJ [58]];show (Ma el' (j::_)).bind _=_
 rw[U];show (pX el' 4 [] (toks (o_ el d.clock.l)++r)).bind _=_
 rw[Hn hA d.clock.l [] 4 r I hG.2 J hr];rfl
theorem vC (a:iO):∀l:List iO,toks (kO el (a::l))=toks (pv el a)++l.flatMap fun d=>⟨4,⟨#[59]⟩⟩::toks (pv el d)
 |[]=>by show toks (pv el a)=_++[];rw[oV]
 |b::l=>by
  have ih:=vC b l;unfold kO at ih⊢;rw[mJ,mJ,mq,iN,iN,<- mJ,ih,kD];rfl
theorem vK (hA:pw el el') {port b:Bool}:∀(l:List iO) (a:iO) (acc:List FZ) (m:Nat) (r:List Tk),nN el port (a::l)=0->(∀d∈a::l,Kx el d.er)->(a::l).length<=m->jq ⟨#[119,104,101,110]⟩ r=false ->
  (!jq ⟨#[59]⟩ r||(b&&!ju 1 r.tail))=true->mv el' b m acc (toks (kO el (a::l))++r)=some (acc++(a::l).map iO.er,r)
 |[],a,acc,m,r,hE,hG,hm,hr,hend=>by
  obtain⟨m,rfl⟩:∃j,m=j+1:=⟨m-1,by rw[py]at hm;omega⟩;unfold nN at hE;rw[iw]at hE;obtain⟨tl,-,e2⟩:=xD hA (jI hE).1 (hG a nG) hr;show mv el' b (m+1) acc (toks (pv el a)++r)=_
  rw[mv,e2];show (if (!jq ⟨#[59]⟩ r||(b&&!ju 1 r.tail))=true then _ else _)=_
  rw[iG hend];rfl
 |c::l,a,acc,m,r,hE,hG,hm,hr,hend=>by
  obtain⟨m,rfl⟩:∃j,m=j+1:=⟨m-1,by rw[py]at hm;omega⟩;unfold nN at hE;rw[iw]at hE;obtain⟨h1,h2⟩:=jI hE;have ih:=vK hA (b:=b) l c (acc++[a.er]) m r h2 (fun d hd=>hG d (qj _ hd)) (by rw[py]at hm;omega) hr hend;obtain⟨tl,e1,-⟩:=xD hA (jI (show jD (jN el port c) _=0 from h2)).1 (hG c (by simp)) (r:=[]) rfl;obtain⟨-,-,e2⟩:=xD hA h1 (hG a nG) (r:=⟨4,⟨#[59]⟩⟩::(toks (kO el (c::l))++r)) ((kg _ _ _).trans rfl);rw[vC,pZ,kD];rw[vC]at ih e2;show mv el' b (m+1) acc (toks (pv el a)++(⟨4,⟨#[59]⟩⟩::(toks (pv el c)++(l.flatMap fun d=>⟨4,⟨#[59]⟩⟩::toks (pv el d)))++r))=_
  rw[lP,mv,e2];show (if (!jq ⟨#[59]⟩ (⟨4,⟨#[59]⟩⟩::_)||(b&&!ju 1 (toks (pv el c)++_++r)))=true then _ else _)=_
  have hk:ju 1 (toks (pv el c)++(l.flatMap fun d=>⟨4,⟨#[59]⟩⟩::toks (pv el d))++r)=true:=by rw[e1];rfl
  rw[kg,hk,iV (by cases b<;>decide),ry,ih,kD];rfl
theorem Bd (hA:pw el el') {k:Nat} {l:List iO} (hE:nN el false l=0) (hG:∀d∈l,Kx el d.er) (hl:l.length<=256) {r:List Tk} (h1:jq ⟨#[118,97,114]⟩ r=false) (h2:ju 1 r=false) :
  oG el' (toks (nr el k l)++r)=some (l.map iO.er,r):=by
 unfold nr;cases l with
 |nil=>
  show oG el' r=_
  unfold oG;rw[h1,iV iI];rfl
 |cons a l=>
 rw[iV (by simp),sv,pd,jT,iN,lK,po,lP,kD];unfold oG;rw[jk,iG iI,ry];show (mv el' true 256 [] (toks (kO el (a::l))++⟨4,⟨#[59]⟩⟩::r)).bind _=_
 rw[vK hA l a [] 256 (⟨4,⟨#[59]⟩⟩::r) hE hG hl ((kg _ _ _).trans rfl) (by rw[kg,ry,h2];rfl)];show (iF [⟨#[59]⟩] (⟨4,⟨#[59]⟩⟩::r)).bind _=_
 rw[lJ [59] r];rfl
end
end
section
theorem Ce (a:ByteArray):∀l:List ByteArray,toks (Bo (a::l))=⟨1,a⟩::l.flatMap fun s=>[⟨4,⟨#[44]⟩⟩,⟨1,s⟩]
 |[]=>rfl
 |b::l=>by
  have ih:=Ce b l;unfold Bo at ih⊢;rw[mJ,mJ,mq,iN,iN];show toks [rM a]++toks qR++toks (mq qR ((b::l).map fun s=>[rM s]))=_
  rw[ih];rfl
theorem BF:∀(l:List ByteArray) (a:ByteArray) (acc:List ByteArray) (m:Nat) (r:List Tk),(a::l).length<=m->jq ⟨#[44]⟩ r=false->nR m acc (toks (Bo (a::l))++r)=some (acc++a::l,r)
 |[],a,acc,m,r,hm,hr=>by
  obtain⟨m,rfl⟩:∃j,m=j+1:=⟨m-1,by rw[py]at hm;omega⟩;rw[Ce];show nR (m+1) acc (⟨1,a⟩::r)=_
  rw[nR];show (if jq ⟨#[44]⟩ r=true then _ else _)=_
  rw[hr,iV iI]
 |b::l,a,acc,m,r,hm,hr=>by
  obtain⟨m,rfl⟩:∃j,m=j+1:=⟨m-1,by rw[py]at hm;omega⟩;have ih:=BF l b (acc++[a]) m r (by rw[py]at hm;omega) hr;rw[Ce]at ih⊢;show nR (m+1) acc (⟨1,a⟩::⟨4,⟨#[44]⟩⟩::⟨1,b⟩::((l.flatMap fun s=>[⟨4,⟨#[44]⟩⟩,⟨1,s⟩])++r))=_
  rw[nR];show (if jq ⟨#[44]⟩ (⟨4,⟨#[44]⟩⟩::_)=true then nR m (acc++[a]) (⟨1,b⟩::_) else _)=_
  rw[kg,iG iI];rw[lP]at ih;rw[ih,kD];rfl
section
variable {el el':List iW}
theorem yY (hA:pw el el') {x:Tx} (hE:qk el x=0) (hX:AX el x.er) {r:List Tk} (hr:tE r) {k:Nat} (hk:12000<=k):jg el' k (toks (kX el x.er)++r)=some (x.er,r):=by
 obtain⟨o,j⟩:=Ki hE;rw[zg]at j;exact (Gf hA.al x.er o hX).e r hr k iu
theorem Ot (hA:pw el el') {j:Nat} {q:oX} (hE:rN el q=0) (hX:AX el q.right.er) (r:List Tk) {k:Nat} (hk:12000<=k) :
  Lm el' k (toks (zj el j q)++r)=some (q.er,r)/\(ju 1 (toks (zj el j q)++r)||jq ⟨#[40]⟩ (toks (zj el j q)++r))=true/\jq ⟨#[97,117,116,111,109,97,116,111,110]⟩ (toks (zj el j q)++r)=false:=by
 obtain⟨h1,U,h3,h4,-⟩:=Fz hE;have R:=yY hA h4 hX (AN (t:=⟨4,⟨#[59]⟩⟩) (by decide +kernel) r) hk;obtain⟨⟨lA,lc,I⟩,x⟩:=q;simp only[]at h1 U h3 R;have hp:toks (zj el j ⟨⟨lA,lc,I⟩,x⟩)++r=toks (vU I)++⟨4,⟨#[61]⟩⟩::(toks (kX el x.er)++⟨4,⟨#[59]⟩⟩::r):=by
  unfold zj;rw[sv,iN,jT,lK,jT,iN,lK,po];simp
 rw[hp];have o:∀l:List ByteArray,(iF [⟨#[61]⟩] (⟨4,⟨#[61]⟩⟩::(toks (kX el x.er)++⟨4,⟨#[59]⟩⟩::r))).bind (fun (_,r)=>(jg el' k r).bind fun (x,r)=>(iF [⟨#[59]⟩] r).bind fun (_,r)=>some ((⟨l,x⟩:En),r))=some (⟨l,x.er⟩,r):=fun l=>by
  rw[lJ [61]];show (jg el' k (toks (kX el x.er)++⟨4,⟨#[59]⟩⟩::r)).bind _=_
  rw[R];show (iF [⟨#[59]⟩] (⟨4,⟨#[59]⟩⟩::r)).bind _=_
  rw[lJ [59] r];rfl
 cases I with
 |nil=>simp at h1
 |cons a l=>
 unfold vU;by_cases J:1<(a::l).length
 ·rw[iG J,lK,iN,lK,po,lP,kD]
  refine⟨?_,by rw[kg];simp,(kg _ _ _).trans rfl⟩;unfold Lm;rw[kg,iG iI,ry];show ((nR 64 [] (toks (Bo (a::l))++⟨4,⟨#[41]⟩⟩::(⟨4,⟨#[61]⟩⟩::(toks (kX el x.er)++⟨4,⟨#[59]⟩⟩::r)))).bind _).bind _=_
  rw[BF l a [] 64 _ U ((kg _ _ _).trans rfl)];show ((iF [⟨#[41]⟩] (⟨4,⟨#[41]⟩⟩::_)).bind _).bind _=_
  rw[lJ [41]];exact o (a::l)
 rw[iV J];obtain rfl:l=[]:=by cases l with | nil=>rfl | cons b l=>simp at J
 refine⟨?_,rfl,rfl⟩;show Lm el' k (⟨1,a⟩::⟨4,⟨#[61]⟩⟩::(toks (kX el x.er)++⟨4,⟨#[59]⟩⟩::r))=_
 unfold Lm;rw[uy,iV iI];exact o [a]
def ma.nm (nms:List ByteArray) (t:ma):wo:=⟨t.cond.er,t.res,nms.getD t.dst.toNat ⟨#[]⟩⟩
theorem CD (hA:pw el el') {j:Nat} {wd:List UInt8} {nms:List ByteArray} {k:Nat} (hk:12000<=k):∀(l:List ma) (acc:List wo) (m:Nat) (r:List Tk),(∀t∈l,qk el t.cond=0/\AX el t.cond.er)->l.length<=m->jq ⟨wd.toArray⟩ r=false ->
  pD el' k ⟨wd.toArray⟩ m acc (toks (sk el j wd nms l)++r)=some (acc++l.map (ma.nm nms),r)
 |[],acc,m,r,_,_,hr=>by
  show pD el' k ⟨wd.toArray⟩ m acc r=_
  unfold pD;rw[hr,iV iI,tW,oV]
 |t::l,acc,m,r,hE,hm,hr=>by
  obtain⟨m,rfl⟩:∃j,m=j+1:=⟨m-1,by rw[py]at hm;omega⟩;have ih:=CD hA (j:=j) (nms:=nms) hk l (acc++[ma.nm nms t]) m r (fun x hx=>hE x (qj _ hx)) (by rw[py]at hm;omega) hr;obtain⟨h1,h2⟩:=hE t nG;have hp:toks (sk el j wd nms (t::l))++r=⟨3,⟨wd.toArray⟩⟩::(toks (kX el t.cond.er)++toks [Aj t.res]++⟨1,nms.getD t.dst.toNat ⟨#[]⟩⟩::⟨4,⟨#[59]⟩⟩::(toks (sk el j wd nms l)++r)):=by
   unfold sk;rw[pZ,iN];show toks (On el j wd nms t)++_++r=_
   unfold On;rw[sv,pd,jT,iN,jT,show ∀q:List Pc,Aj t.res::q=[Aj t.res]++q from fun _=>rfl,iN,jT,um,lK,po];simp
  rw[hp];unfold pD;rw[jk,iG (by simp),ry];have o:(pV (⟨1,nms.getD t.dst.toNat ⟨#[]⟩⟩::⟨4,⟨#[59]⟩⟩::(toks (sk el j wd nms l)++r))).bind (fun (s,r)=>(iF [⟨#[59]⟩] r).bind fun (_,r)=>pD el' k ⟨wd.toArray⟩ m (acc++[⟨t.cond.er,t.res,s⟩]) r)=some (acc++(t::l).map (ma.nm nms),r):=by
   show (iF [⟨#[59]⟩] (⟨4,⟨#[59]⟩⟩::_)).bind _=_
   rw[lJ [59]];show pD el' k ⟨wd.toArray⟩ m (acc++[ma.nm nms t]) (toks (sk el j wd nms l)++r)=_
   rw[ih,kD];rfl
  cases hres:t.res with
  |true=>
   rw[hres]at o;show (jg el' k (toks (kX el t.cond.er)++[⟨3,⟨#[99,111,110,116,105,110,117,101]⟩⟩]++_)).bind _=_
   rw[kD,lP,sb,yY hA h1 h2 (AN (t:=⟨3,⟨#[99,111,110,116,105,110,117,101]⟩⟩) (by decide +kernel) _) hk];show Option.bind (if jq ⟨#[99,111,110,116,105,110,117,101]⟩ (⟨3,⟨#[99,111,110,116,105,110,117,101]⟩⟩::_)=true then some (true,_) else _) _=_
   rw[jk,iG iI];exact o
  |false=>
  rw[hres]at o;show (jg el' k (toks (kX el t.cond.er)++[⟨3,⟨#[116,104,101,110]⟩⟩]++_)).bind _=_
  rw[kD,lP,sb,yY hA h1 h2 (AN (t:=⟨3,⟨#[116,104,101,110]⟩⟩) (by decide +kernel) _) hk];show Option.bind (if jq ⟨#[99,111,110,116,105,110,117,101]⟩ (⟨3,⟨#[116,104,101,110]⟩⟩::_)=true then some (true,_) else (iF [⟨#[116,104,101,110]⟩] (⟨3,⟨#[116,104,101,110]⟩⟩::_)).bind _) _=_
  rw[jk,iV iI,uk [116,104,101,110]];exact o
theorem Ir (hA:pw el el') {j m:Nat} {as_:List BU}:∀(l:List oX) (acc:List En) (r:List Tk) (k:Nat),iw (rN el) l=0->(∀q∈l,AX el q.right.er)->acc.length+l.length<=256->12000+l.length<=k ->
  mu el' k m acc as_ (toks (l.flatMap (zj el j))++r)=mu el' (k-l.length) m (acc++l.map oX.er) as_ r
 |[],acc,r,k,_,_,_,_=>by rw[tW,oV];rfl
 |q::l,acc,r,k,hE,hX,hl,hk=>by
  rw[iw]at hE;obtain⟨h1,h2⟩:=jI hE;rw[py]at hl hk;obtain⟨k,rfl⟩:∃i,k=i+1:=⟨k-1,iu⟩;have ih:=Ir hA (j:=j) (m:=m) (as_:=as_) l (acc++[q.er]) r k h2 (fun x hx=>hX x (qj _ hx)) (by rw[mo,xH];omega) iu;obtain⟨e1,e2,e3⟩:=Ot hA (j:=j) h1 (hX q nG) (toks (l.flatMap (zj el j))++r) (k:=k) iu;rw[pZ,iN,kD,mu,e3,iV iI,e2,iG rfl,iV iu,e1];show mu el' k m (acc++[q.er]) as_ (toks (l.flatMap (zj el j))++r)=_
  rw[ih,kD,py,show k+1-(l.length+1)=k-l.length by omega];rfl
theorem Iz {j m:Nat} {es:List En} (h0:m≠0):∀(l:List AuT) (acc:List BU) (r:List Tk) (K k:Nat),(∀a∈l,∃tl,toks (CN el j a)=⟨3,⟨#[97,117,116,111,109,97,116,111,110]⟩⟩::tl/\∀r k,K<=k->pq el' k m [] (tl++r)=some (a.er,r))->acc.length+l.length<=8->K+l.length<=k ->
  mu el' k m es acc (toks (vN el j l)++r)=mu el' (k-l.length) m es (acc++AuT.kv l) r
 |[],acc,r,K,k,_,_,_=>by rw[vN,AuT.kv,oV];rfl
 |a::l,acc,r,K,k,hE,hl,hk=>by
  rw[py]at hl hk;obtain⟨k,rfl⟩:∃i,k=i+1:=⟨k-1,iu⟩;have ih:=Iz (j:=j) (es:=es) h0 l (acc++[a.er]) r K k (fun x hx=>hE x (qj _ hx)) (by rw[mo,xH];omega) iu;obtain⟨tl,e1,e2⟩:=hE a nG;rw[vN,iN,e1,kD,lP,mu,jk,iG iI,iV iu,ry,e2 _ k iu];show mu el' k m es (acc++[a.er]) (toks (vN el j l)++r)=_
  rw[ih,kD,py,show k+1-(l.length+1)=k-l.length by omega,AuT.kv];rfl
def StT.sn (nms:List ByteArray):StT->Ci
 |.mk n l e _ _ a u v=>⟨n,l.l.map iO.er,e.l.map oX.er,AuT.kv a,u.l.map (ma.nm nms),v.l.map (ma.nm nms)⟩
theorem E8 {nms:List ByteArray}:∀{l:List ma},(∀t∈l,SI el nms t.er)->(l.map (ma.nm nms)).mapM (yp nms)=some (l.map ma.er)
 |[],_=>rfl
 |t::l,h=>by
  obtain⟨-,s,j,h2,h3⟩:=h t nG;have h3:t.dst=(j:Int):=h3;obtain⟨i,h4,h5⟩:=Kz h2;have hs:nms.getD t.dst.toNat ⟨#[]⟩=s:=by
   rw[h3,wC,show ((j:Nat):Int).toNat=i by omega,h5];rfl
  rw[mJ,Cx,E8 fun x o=>h x (qj _ o)];unfold yp ma.nm;simp only[hs,h2];show some ((⟨t.cond.er,(j:Int),t.res⟩:Qb)::l.map ma.er)=some (ma.er t::l.map ma.er)
  rw[<- h3];rfl
theorem Oe {nms:List ByteArray}:∀{l:List StT},Fs el nms (StT.kv l)->(l.map (StT.sn nms)).mapM (wW nms)=some (StT.kv l)
 |[],_=>by rw[StT.kv];rfl
 |.mk n lo e A c a u v::l,h=>by
  rw[StT.kv,Fs]at h;obtain⟨h1,h2⟩:=h;rw[StT.er,P3]at h1;obtain⟨-,-,-,h3,h4⟩:=h1;rw[mJ,Cx,Oe h2];unfold wW StT.sn;have e1:=E8 (el:=el) (nms:=nms) (l:=u.l) fun t ht=>h3 _ (xL ht)
  have e2:=E8 (el:=el) (nms:=nms) (l:=v.l) fun t ht=>h4 _ (xL ht)
  simp only[e1,e2];rw[StT.kv,StT.er];rfl
theorem EZ:∀l:List StT,(StT.kv l).map F5.nm=l.map StT.name
 |[]=>rfl
 |.mk n lo e A c a u v::l=>by rw[StT.kv,mJ,mJ,EZ l,StT.er];rfl
theorem FU {nms:List ByteArray}:∀{l:List StT},Fs el nms (StT.kv l)->∀x∈l,P3 el nms x.er
 |[],_,x,h=>by cases h
 |y::l,hg,x,h=>by
  rw[StT.kv,Fs]at hg;rcases uW.1 h with h | h
  ·rw[h];exact hg.1
  exact FU hg.2 x h
theorem EG:∀{l:List AuT},tZ el (AuT.kv l)->∀x∈l,Ry el x.er
 |[],_,x,h=>by cases h
 |y::l,hg,x,h=>by
  rw[AuT.kv,tZ]at hg;rcases uW.1 h with h | h
  ·rw[h];exact hg.1
  exact EG hg.2 x h
structure RP (r:List Tk):Prop where
 a:jq ⟨#[97,117,116,111,109,97,116,111,110]⟩ r=false
 k:ju 1 r=false
 p:jq ⟨#[40]⟩ r=false
theorem Ke (hA:pw el el') {j m K:Nat} {ql:List oX} {al:List AuT} (hE:iw (rN el) ql=0) (hX:∀q∈ql,AX el q.right.er) (hq:ql.length<=256) (hl:al.length<=8) (h0:m≠0\/al=[])
  (ha:∀a∈al,∃tl,toks (CN el j a)=⟨3,⟨#[97,117,116,111,109,97,116,111,110]⟩⟩::tl/\∀r k,K<=k->pq el' k m [] (tl++r)=some (a.er,r)) {r:List Tk} (hr:RP r) {k:Nat} (hk:12300<=k) (hK:K+300<=k) :
  mu el' k m [] [] (toks (qJ el j ql al)++r)=some ((ql.map oX.er,AuT.kv al),r):=by
 unfold qJ;rw[iN,kD,Ir hA ql [] _ k hE hX (by simp;omega) iu];have I:mu el' (k-ql.length) m ([]++ql.map oX.er) [] (toks (vN el j al)++r)=mu el' (k-ql.length-al.length) m ([]++ql.map oX.er) ([]++AuT.kv al) r:=by
  rcases h0 with h0 | rfl
  ·exact Iz h0 al [] r K _ ha (by simp;omega) iu
  rw[vN,AuT.kv];rfl
 rw[I];obtain⟨i,o⟩:∃i,k-ql.length-al.length=i+1:=⟨k-ql.length-al.length-1,iu⟩;rw[o,mu,hr.a,iV iI,hr.k,hr.p,iV iI];rfl
theorem BJ {j:Nat} {wd:List UInt8} {nms:List ByteArray} {P:List Tk->Prop} (l:List ma) {r:List Tk} (h1:∀tl,P (⟨3,⟨wd.toArray⟩⟩::tl)) (h2:P r):P (toks (sk el j wd nms l)++r):=by
 cases l with
 |nil=>exact h2
 |cons t l=>
 unfold sk;rw[pZ,iN];unfold On;rw[sv,pd];exact h1 _
theorem Hh (hA:pw el el') {j m K:Nat} {nms:List ByteArray} (hn:True):∀(l:List StT) (acc:List Ci) (r:List Tk) (k:Nat),(∀x∈l,QD el nms.length x/\P3 el nms x.er/\x.locals.l.length<=256/\x.unl.l.length<=4/\x.unt.l.length<=4) ->
  (∀x∈l,∀r k,RP r->K<=k->mu el' k (m-1) [] [] (toks (qJ el (j+2) x.eqs.l x.autos)++r)=some ((x.eqs.l.map oX.er,AuT.kv x.autos),r)) ->
  acc.length+l.length<=8->K+l.length+1<=k->12000+l.length<=k ->
  pq el' k m acc (toks (wi el j nms l)++⟨3,⟨#[101,110,100]⟩⟩::r)=((acc++l.map (StT.sn nms)).mapM (wW ((acc++l.map (StT.sn nms)).map Ci.name))).bind fun L=>some (.mk L,r)
 |[],acc,r,k,_,_,_,hk,_=>by
  obtain⟨k,rfl⟩:∃i,k=i+1:=⟨k-1,iu⟩;rw[wi,po,sb,tW,oV,pq,jk,iV iI];rw[uk [101,110,100] r];rfl
 |.mk n lo e A c a u v::l,acc,r,k,hs,hb,hl,hk,hk2=>by
  rw[py]at hl hk hk2;obtain⟨k,rfl⟩:∃i,k=i+1:=⟨k-1,iu⟩;obtain⟨ok,hg,q1,q2,q3⟩:=hs _ nG;have hb1:=hb _ nG;have ih:=Hh hA (j:=j) (m:=m) (K:=K) hn l (acc++[StT.sn nms (.mk n lo e A c a u v)]) r k (fun x hx=>hs x (qj _ hx)) (fun x hx=>hb x (qj _ hx)) (by rw[mo,xH];omega) iu iu;obtain⟨o1,o2,o3,o4,o5⟩:=ok;rw[StT.er,P3]at hg;obtain⟨p1,p2,p3,p4,p5⟩:=hg;simp only[StT.name,StT.locals,StT.unl,StT.unt,StT.eqs,StT.autos]at o1 o2 o3 o4 o5 hb1 q1 q2 q3;have hp:toks (wi el j nms (.mk n lo e A c a u v::l))++⟨3,⟨#[101,110,100]⟩⟩::r=⟨3,⟨#[115,116,97,116,101]⟩⟩::⟨1,n⟩::(toks (nr el (j+2) lo.l)++(toks (sk el (j+2) [117,110,108,101,115,115] nms u.l)++(⟨3,⟨#[100,111]⟩⟩::(toks (qJ el (j+2) e.l a)++(toks (sk el (j+2) [117,110,116,105,108] nms v.l)++(⟨3,⟨#[100,111,110,101]⟩⟩::(toks (wi el j nms l)++⟨3,⟨#[101,110,100]⟩⟩::r))))))):=by
   rw[wi,IC];unfold qJ;simp only[iN,sv,pd,jT,um,po,kD,lP,sb]
  rw[hp,pq,jk,iG iI,iV iu,ry];show (oG el' (toks (nr el (j+2) lo.l)++_)).bind _=_
  rw[Bd hA o2 (fun d J=>p1 _ (xL J)) q1
   (BJ (P:=fun r=>jq ⟨#[118,97,114]⟩ r=false) u.l (fun I=>(jk _ _ _).trans rfl) ((jk _ _ _).trans rfl))
   (BJ (P:=fun r=>ju 1 r=false) u.l (fun I=>rfl) rfl)]
  show (pD el' k ⟨#[117,110,108,101,115,115]⟩ 4 [] (toks (sk el (j+2) [117,110,108,101,115,115] nms u.l)++_)).bind _=_
  rw[CD hA (wd:=[117,110,108,101,115,115]) iu u.l [] 4 _ (fun t o=>⟨(o4 t o).1,(p4 _ (xL o)).1⟩) q2 ((jk _ _ _).trans rfl)];show (iF [⟨#[100,111]⟩] (⟨3,⟨#[100,111]⟩⟩::_)).bind _=_
  rw[uk [100,111]];show (mu el' k (m-1) [] [] (toks (qJ el (j+2) e.l a)++_)).bind _=_
  rw[hb1 _ k ⟨BJ (P:=fun r=>jq ⟨#[97,117,116,111,109,97,116,111,110]⟩ r=false) v.l (fun I=>(jk _ _ _).trans rfl) ((jk _ _ _).trans rfl),BJ (P:=fun r=>ju 1 r=false) v.l (fun I=>rfl) rfl,BJ (P:=fun r=>jq ⟨#[40]⟩ r=false) v.l (fun I=>(jk _ _ _).trans rfl) ((jk _ _ _).trans rfl)⟩ iu];show (pD el' k ⟨#[117,110,116,105,108]⟩ 4 [] (toks (sk el (j+2) [117,110,116,105,108] nms v.l)++_)).bind _=_
  rw[CD hA (wd:=[117,110,116,105,108]) iu v.l [] 4 _ (fun t o=>⟨(o5 t o).1,(p5 _ (xL o)).1⟩) q3 ((jk _ _ _).trans rfl)];show (iF [⟨#[100,111,110,101]⟩] (⟨3,⟨#[100,111,110,101]⟩⟩::_)).bind _=_
  rw[uk [100,111,110,101]];show pq el' k m (acc++[StT.sn nms (.mk n lo e A c a u v)]) _=_
  rw[ih,kD];rfl
end
end
section
theorem O6 {el:List iW} {n d:Nat} {x:StT} (h:AM el n d x=0):x.locals.l.length<=256/\x.unl.l.length<=4/\x.unt.l.length<=4:=by
 obtain⟨R,J,eq,A,c,au,I,o⟩:=x;rw[IY]at h;obtain⟨U,h⟩:=jI h;obtain⟨j,h⟩:=jI h;have j:=nJ iI j;simp only[mT,decide_eq_true_eq]at j;exact⟨by show J.l.length<=256;omega,by show I.l.length<=4;omega,by show o.l.length<=4;omega⟩
section
variable {el el':List iW}
theorem Kk (hA:pw el el'):∀(n d j:Nat),d+n=3->∀a:AuT,rK el d a=0->Ry el a.er ->
  ∃tl,toks (CN el j a)=⟨3,⟨#[97,117,116,111,109,97,116,111,110]⟩⟩::tl/\∀r k,12000+400*n<=k->pq el' k n [] (tl++r)=some (a.er,r)
 |0,d,j,hd,.mk A c l,hE,hG=>by
  rw[yt]at hE;have h1:=nJ iI (jI hE).1;simp only[decide_eq_true_eq]at h1;omega
 |n+1,d,j,hd,.mk A c l,hE,hG=>by
  rw[yt]at hE;obtain⟨h1,h⟩:=jI hE;obtain⟨h2,h⟩:=jI h;obtain⟨h3,h4⟩:=jI h;have h3:=nJ iI h3;simp only[decide_eq_true_eq]at h3;rw[AuT.er,Ry,EZ]at hG;refine⟨toks (wi el j (l.map StT.name) l)++[⟨3,⟨#[101,110,100]⟩⟩],?_,fun r k hk=>?_⟩
  ·rw[CN,iN,iN,sv,sv]
   rfl
  rw[kD];show pq el' k (n+1) [] (toks (wi el j (l.map StT.name) l)++⟨3,⟨#[101,110,100]⟩⟩::r)=_
  have hl8:l.length<=8:=iu;have e1:12300+400*n+l.length+1<=k:=iu;have e2:12000+l.length<=k:=iu;rw[Hh hA (K:=12300+400*n) trivial l [] r k (fun x hx=>?_) (fun x hx r k hr hk=>?_) (by simpa using hl8) e1 e2]
  ·rw[sb,show (l.map (StT.sn (l.map StT.name))).map Ci.name=l.map StT.name from ?_,Oe hG]
   ·rw[AuT.er];rfl
   rw[xZ];exact IL fun x _=>by cases x;rfl
  ·have hx9:=jd h4 x hx
   obtain⟨g1,g2,g3⟩:=O6 hx9;exact⟨by rw[pE];exact (wP hx9).1,FU hG x hx,g1,g2,g3⟩
  have hx9:=jd h4 x hx;obtain⟨-,-,q1,q2,q3,q4⟩:=wP hx9;have hg:=FU hG x hx;obtain⟨nm,lo,e,A',c',au,u,v⟩:=x;rw[StT.er,P3]at hg;obtain⟨-,p2,p3,-,-⟩:=hg;have f1:=jW (Nat.le_add_right _ _) hk;have f2:12000+400*n+300<=k:=by rw[Nat.add_right_comm];exact hk
  refine Ke hA (m:=n) (K:=12000+400*n) q1 (fun q hq=>p2 _ (xL hq)) q3 q4 ?_ (fun a ha=>?_) hr f1 f2
  ·cases n with
   |zero=>
    refine .inr ?_;cases au with
    |nil=>rfl
    |cons a au=>
    have:=jd q2 a (nG);obtain⟨A9,c9,l9⟩:=a;rw[yt]at this;have h9:=nJ iI (jI this).1;simp only[decide_eq_true_eq]at h9;omega
   |succ n=>exact .inl iu
  exact Kk hA n (d+1) (j+2) iu a (jd q2 a ha) (EG p3 a ha)
theorem Jb (kw:List UInt8) (x:Tx) (r:List Tk):toks (kI el kw x)++r=⟨3,⟨kw.toArray⟩⟩::(toks (kX el x.er)++⟨4,⟨#[59]⟩⟩::r):=by
 unfold kI;rw[sv,pd,jT,iN,lK,po,lP,kD];rfl
theorem Hw (hA:pw el el') {k:Nat} (hk:12000<=k):∀(l:List Tx) (as_ acc:List Ex) (f:Nat) (r:List Tk),iw (qk el) l=0->(∀x∈l,AX el x.er)->acc.length+l.length<=8->l.length<=f->jq ⟨#[97,115,115,117,109,101]⟩ r=false->jq ⟨#[101,110,115,117,114,101]⟩ r=false ->
  ox el' k f as_ acc (toks (l.flatMap (kI el [101,110,115,117,114,101]))++r)=some ((as_,acc++l.map Tx.er),r)
 |[],as_,acc,f,r,_,_,_,_,h1,h2=>by
  show ox el' k f as_ acc r=_
  cases f with
  |zero=>rw[ox,h1,h2,iV iI,tW,oV]
  |succ f=>rw[ox,h1,h2,iV iI,iV iI,tW,oV]
 |x::l,as_,acc,f,r,hE,hX,hl,hf,h1,h2=>by
  rw[iw]at hE;obtain⟨g1,g2⟩:=jI hE;rw[py]at hl hf;obtain⟨f,rfl⟩:∃j,f=j+1:=⟨f-1,iu⟩;have ih:=Hw hA hk l as_ (acc++[x.er]) f r g2 (fun y hy=>hX y (qj _ hy)) (by rw[mo,xH];omega) iu h1 h2;rw[pZ,iN,kD,Jb,ox,jk,iV iI,jk,iG iI,iV iu,ry];rw[yY hA g1 (hX x nG) (AN (t:=⟨4,⟨#[59]⟩⟩) (by decide +kernel) _) hk];show (iF [⟨#[59]⟩] (⟨4,⟨#[59]⟩⟩::_)).bind _=_
  rw[lJ [59]];show ox el' k f as_ (acc++[x.er]) _=_
  rw[ih,kD];rfl
theorem G6 (hA:pw el el') {k:Nat} (hk:12000<=k) {en:List Tx} (hE2:iw (qk el) en=0) (hX2:∀x∈en,AX el x.er) (hl2:en.length<=8) {r:List Tk} (h1:jq ⟨#[97,115,115,117,109,101]⟩ r=false) (h2:jq ⟨#[101,110,115,117,114,101]⟩ r=false) :
  ∀(l:List Tx) (acc:List Ex) (f:Nat),iw (qk el) l=0->(∀x∈l,AX el x.er)->acc.length+l.length<=8->l.length+en.length<=f ->
  ox el' k f acc [] (toks (l.flatMap (kI el [97,115,115,117,109,101]))++(toks (en.flatMap (kI el [101,110,115,117,114,101]))++r))=some ((acc++l.map Tx.er,en.map Tx.er),r)
 |[],acc,f,_,_,_,hf=>by
  show ox el' k f acc [] (toks (en.flatMap (kI el [101,110,115,117,114,101]))++r)=_
  rw[Hw hA hk en acc [] f r hE2 hX2 (by simpa using hl2) (by simpa using hf) h1 h2,tW,oV,sb]
 |x::l,acc,f,hE,hX,hl,hf=>by
  rw[iw]at hE;obtain⟨g1,g2⟩:=jI hE;rw[py]at hl hf;obtain⟨f,rfl⟩:∃j,f=j+1:=⟨f-1,iu⟩;have ih:=G6 hA hk hE2 hX2 hl2 h1 h2 l (acc++[x.er]) f g2 (fun y hy=>hX y (qj _ hy)) (by rw[mo,xH];omega) iu;rw[pZ,iN,kD,Jb,ox,jk,iG iI,iV iu,ry];rw[yY hA g1 (hX x nG) (AN (t:=⟨4,⟨#[59]⟩⟩) (by decide +kernel) _) hk];show (iF [⟨#[59]⟩] (⟨4,⟨#[59]⟩⟩::_)).bind _=_
  rw[lJ [59]];show ox el' k f (acc++[x.er]) [] _=_
  rw[ih,kD];rfl
theorem Kh {kw:List UInt8} {P:List Tk->Prop} (l:List Tx) {r:List Tk} (h1:∀tl,P (⟨3,⟨kw.toArray⟩⟩::tl)) (h2:P r):P (toks (l.flatMap (kI el kw))++r):=by
 cases l with
 |nil=>exact h2
 |cons t l=>
 rw[pZ,iN,kD,Jb];exact h1 _
theorem Mq {l:List AuT} (h:tZ el (l.map AuT.er)):tZ el (AuT.kv l)/\l.map AuT.er=AuT.kv l:=by
 have:l.map AuT.er=AuT.kv l:=by
  induction l with
  |nil=>rw[AuT.kv];rfl
  |cons a l ih=>rw[mJ,tZ]at h;rw[mJ,AuT.kv,ih h.2]
 exact⟨this▸h,this⟩
theorem Ej (hA:pw el el') {k:Nat} (hk:14000<=k) {n:nh} (hE:mY el n=0) (hG:QB el n.er):∃tl,toks (qo el n)=⟨3,⟨#[110,111,100,101]⟩⟩::tl/\∀r,uO el' k (tl++r)=some (n.er,r):=by
 obtain⟨k1,k2,k3,k4,k5,k6,k7,k8,k9,a',a_,a8,a7,a6,a1,U⟩:=yW hE;obtain⟨nn,⟨iA,ic,o⟩,⟨oA,oc,ol⟩,⟨lA,lc,ll⟩,⟨qA,qc,ql⟩,⟨aA,ac,al⟩,⟨sA,sc,I⟩,⟨ae,ad,R⟩⟩:=n;simp only[]at k1 k2 k3 k4 k5 k6 k7 k8 k9 a' a_ a8 a7 a6 a1 U;obtain⟨g1,g2,g3,g4,g5,g6,g7⟩:=hG;simp only[nh.er]at g1 g2 g3 g4 g5 g6 g7;obtain⟨g5,ab⟩:=Mq g5;have hp:toks (qo el ⟨nn,⟨iA,ic,o⟩,⟨oA,oc,ol⟩,⟨lA,lc,ll⟩,⟨qA,qc,ql⟩,⟨aA,ac,al⟩,⟨sA,sc,I⟩,⟨ae,ad,R⟩⟩)=⟨3,⟨#[110,111,100,101]⟩⟩::⟨1,nn⟩::⟨4,⟨#[40]⟩⟩::(toks (kO el o)++⟨4,⟨#[41]⟩⟩::⟨3,⟨#[114,101,116,117,114,110,115]⟩⟩::⟨4,⟨#[40]⟩⟩::(toks (kO el ol)++⟨4,⟨#[41]⟩⟩::(toks (nr el 1 ll)++(toks (I.flatMap (kI el [97,115,115,117,109,101]))++(toks (R.flatMap (kI el [101,110,115,117,114,101]))++⟨3,⟨#[108,101,116]⟩⟩::(toks (qJ el 1 ql al)++[⟨3,⟨#[116,101,108]⟩⟩])))))):=by
  unfold qo ya;simp only[iN,sv,pd,jT,um,lK,po,kD,lP,sb]
 refine⟨_,hp,fun r=>?_⟩;simp only[lP,kD,sb];unfold uO;show (iF [⟨#[40]⟩] (⟨4,⟨#[40]⟩⟩::_)).bind _=_
 rw[lJ [40]];have aa:∀j,(if jq ⟨#[41]⟩ (toks (kO el o)++⟨4,⟨#[41]⟩⟩::j)=true then some ([],toks (kO el o)++⟨4,⟨#[41]⟩⟩::j) else mv el' false 64 [] (toks (kO el o)++⟨4,⟨#[41]⟩⟩::j))=some (o.map iO.er,⟨4,⟨#[41]⟩⟩::j):=fun j=>by
  cases o with
  |nil=>
   show (if jq ⟨#[41]⟩ (⟨4,⟨#[41]⟩⟩::j)=true then some ([],⟨4,⟨#[41]⟩⟩::j) else _)=_
   rw[kg,iG iI];rfl
  |cons a l=>
  have J:=xD hA (jI (show jD (jN el true a) _=0 from k2)).1 (g1 _ (xL nG)) (r:=[]) rfl;obtain⟨tl,e1,-⟩:=J;rw[iV (by rw[vC,e1];exact yE),vK hA (b:=false) l a [] 64 (⟨4,⟨#[41]⟩⟩::j) k2 (fun d J=>g1 _ (xL J)) k5 ((kg _ _ _).trans rfl) (by rw[kg];rfl)];rfl
 show Option.bind (if jq ⟨#[41]⟩ (toks (kO el o)++⟨4,⟨#[41]⟩⟩::_)=true then some ([],toks (kO el o)++⟨4,⟨#[41]⟩⟩::_) else mv el' false 64 [] (toks (kO el o)++⟨4,⟨#[41]⟩⟩::_)) _=_
 rw[aa];show (iF [⟨#[41]⟩,⟨#[114,101,116,117,114,110,115]⟩,⟨#[40]⟩] (⟨4,⟨#[41]⟩⟩::⟨3,⟨#[114,101,116,117,114,110,115]⟩⟩::⟨4,⟨#[40]⟩⟩::_)).bind _=_
 have hm:∀j,iF [⟨#[41]⟩,⟨#[114,101,116,117,114,110,115]⟩,⟨#[40]⟩] (⟨4,⟨#[41]⟩⟩::⟨3,⟨#[114,101,116,117,114,110,115]⟩⟩::⟨4,⟨#[40]⟩⟩::j)=some ((),j):=fun j=>by
  unfold iF;rw[kg,iG iI,ry];unfold iF;rw[jk,iG iI,ry];exact lJ [40] j
 rw[hm];show (mv el' false 64 [] (toks (kO el ol)++⟨4,⟨#[41]⟩⟩::_)).bind _=_
 cases ol with
 |nil=>simp at k8
 |cons a l=>
 rw[vK hA (b:=false) l a [] 64 _ k3 (fun d J=>g2 _ (xL J)) k6 ((kg _ _ _).trans rfl) (by rw[kg];rfl)];show (iF [⟨#[41]⟩] (⟨4,⟨#[41]⟩⟩::_)).bind _=_
 rw[lJ [41]];show (oG el' (toks (nr el 1 ll)++_)).bind _=_
 rw[Bd hA k4 (fun d J=>g3 _ (xL J)) k7
  (Kh (P:=fun r=>jq ⟨#[118,97,114]⟩ r=false) I (fun tl=>(jk _ _ _).trans rfl) (Kh (P:=fun r=>jq ⟨#[118,97,114]⟩ r=false) R (fun tl=>(jk _ _ _).trans rfl) ((jk _ _ _).trans rfl)))
  (Kh (P:=fun r=>ju 1 r=false) I (fun tl=>rfl) (Kh (P:=fun r=>ju 1 r=false) R (fun tl=>rfl) rfl))]
 show (ox el' k 17 [] [] (toks (I.flatMap (kI el [97,115,115,117,109,101]))++(toks (R.flatMap (kI el [101,110,115,117,114,101]))++_))).bind _=_
 rw[G6 hA iu a1 (fun x hx=>g7 _ (xL hx)) U ((jk _ _ _).trans rfl) ((jk _ _ _).trans rfl) I [] 17 a7 (fun x hx=>g6 _ (xL hx)) (by simpa using a6) iu];show (iF [⟨#[108,101,116]⟩] (⟨3,⟨#[108,101,116]⟩⟩::_)).bind _=_
 rw[uk [108,101,116]];show (mu el' k 3 [] [] (toks (qJ el 1 ql al)++(⟨3,⟨#[116,101,108]⟩⟩::r))).bind _=_
 rw[Ke hA (K:=12000+400*3) k9 (fun q hq=>g4 _ (xL hq)) a' a8 (.inl iI) (fun a ha=>Kk hA 3 0 1 iu a (jd a_ a ha) (EG g5 a ha)) ⟨(jk _ _ _).trans rfl,rfl,(jk _ _ _).trans rfl⟩ iu iu];show (iF [⟨#[116,101,108]⟩] (⟨3,⟨#[116,101,108]⟩⟩::r)).bind _=_
 rw[uk [116,101,108] r];show some ((⟨nn,o.map iO.er,(a::l).map iO.er,ll.map iO.er,ql.map oX.er,AuT.kv al,I.map Tx.er,R.map Tx.er⟩:D8),r)=_
 rw[<- ab];rfl
theorem BH (hA:pw el el') {k:Nat} (hk:14000<=k):∀(l:List nh) (acc:List D8) (m:Nat),(∀n∈l,mY el n=0/\QB el n.er)->l.length<=m->mQ el' k m acc (toks (l.flatMap (qo el)))=some (acc++l.map nh.er,[])
 |[],acc,m,_,_=>by
  show mQ el' k m acc []=_
  unfold mQ;show some (acc,[])=_
  rw[tW,oV]
 |n::l,acc,m,h,hm=>by
  obtain⟨m,rfl⟩:∃j,m=j+1:=⟨m-1,by rw[py]at hm;omega⟩;have ih:=BH hA hk l (acc++[n.er]) m (fun x hx=>h x (qj _ hx)) (by rw[py]at hm;omega);obtain⟨tl,e1,e2⟩:=Ej hA hk (h n nG).1 (h n nG).2;rw[pZ,iN,e1,lP];unfold mQ;rw[jk,iG iI,ry];show (uO el' k (tl++_)).bind _=_
  rw[e2];show mQ el' k m (acc++[n.er]) _=_
  rw[ih,kD];rfl
end
theorem zU (a:ByteArray):∀l:List ByteArray,toks (vY (a::l))=⟨1,a⟩::l.flatMap fun s=>[⟨4,⟨#[124]⟩⟩,⟨1,s⟩]
 |[]=>rfl
 |b::l=>by
  have ih:=zU b l;unfold vY at ih⊢;rw[mJ,mJ,mq,iN,iN];show toks [rM a]++toks Jj++toks (mq Jj ((b::l).map fun s=>[rM s]))=_
  rw[ih];rfl
theorem DK:∀(l:List ByteArray) (a:ByteArray) (acc:List ByteArray) (m:Nat) (r:List Tk),(a::l).length<=m->jq ⟨#[124]⟩ r=false->qH m acc (toks (vY (a::l))++r)=some (acc++a::l,r)
 |[],a,acc,m,r,hm,hr=>by
  obtain⟨m,rfl⟩:∃j,m=j+1:=⟨m-1,by rw[py]at hm;omega⟩;rw[zU];show qH (m+1) acc (⟨1,a⟩::r)=_
  rw[qH];show (if jq ⟨#[124]⟩ r=true then _ else _)=_
  rw[hr,iV iI]
 |b::l,a,acc,m,r,hm,hr=>by
  obtain⟨m,rfl⟩:∃j,m=j+1:=⟨m-1,by rw[py]at hm;omega⟩;have ih:=DK l b (acc++[a]) m r (by rw[py]at hm;omega) hr;rw[zU]at ih⊢;show qH (m+1) acc (⟨1,a⟩::⟨4,⟨#[124]⟩⟩::⟨1,b⟩::((l.flatMap fun s=>[⟨4,⟨#[124]⟩⟩,⟨1,s⟩])++r))=_
  rw[qH];show (if jq ⟨#[124]⟩ (⟨4,⟨#[124]⟩⟩::_)=true then qH m (acc++[a]) (⟨1,b⟩::_) else _)=_
  rw[kg,iG iI];rw[lP]at ih;rw[ih,kD];rfl
theorem CE:∀(l:List iW) (acc:List KD) (m:Nat) (r:List Tk),(∀u∈l,oy u=0)->l.length<=m->jq ⟨#[116,121,112,101]⟩ r=false->mE m acc (toks (l.flatMap sF)++r)=some (acc++l.map iW.er,r)
 |[],acc,m,r,_,_,hr=>by
  show mE m acc r=_
  unfold mE;rw[hr,iV iI,tW,oV]
 |u::l,acc,m,r,h,hm,hr=>by
  obtain⟨m,rfl⟩:∃j,m=j+1:=⟨m-1,by rw[py]at hm;omega⟩;have ih:=CE l (acc++[u.er]) m r (fun x hx=>h x (qj _ hx)) (by rw[py]at hm;omega) hr;obtain⟨-,i2,i3,-⟩:=qm (h u nG);obtain⟨un,⟨uA,uc,ul⟩⟩:=u;simp only[]at i2 i3;cases ul with
  |nil=>simp at i2
  |cons a ul=>
  have hp:toks (((⟨un,⟨uA,uc,a::ul⟩⟩:iW)::l).flatMap sF)++r=⟨3,⟨#[116,121,112,101]⟩⟩::⟨1,un⟩::⟨4,⟨#[61]⟩⟩::(toks (vY (a::ul))++⟨4,⟨#[59]⟩⟩::(toks (l.flatMap sF)++r)):=by
   rw[pZ,iN];unfold sF;rw[sv,pd,jT,um,jT,lK,jT,iN,lK,po];simp
  rw[hp];unfold mE;rw[jk,iG iI,ry];show (iF [⟨#[61]⟩] (⟨4,⟨#[61]⟩⟩::_)).bind _=_
  rw[lJ [61]];show (qH 16 [] (toks (vY (a::ul))++_)).bind _=_
  rw[DK ul a [] 16 _ i3 ((kg _ _ _).trans rfl)];show (iF [⟨#[59]⟩] (⟨4,⟨#[59]⟩⟩::_)).bind _=_
  rw[lJ [59]];show mE m (acc++[iW.er ⟨un,⟨uA,uc,a::ul⟩⟩]) _=_
  rw[ih,kD];rfl
end
end Go.Proofs.YtnigblndonocfaaGreatDoor
