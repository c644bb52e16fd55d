/- A part of the proof. -/
import Derived.Test.YtnigblndonocfaaGreatDoorVEx
set_option linter.unusedVariables false
set_option linter.unusedSimpArgs false
namespace Go.Proofs.YtnigblndonocfaaGreatDoor
set_option maxRecDepth 100000
set_option maxHeartbeats 6400000
open Go.RowKit Go.BigFrame
section
section
variable {el el':List iW}
theorem Mu (l:List Ex):(jy el l).reverse=jy el l.reverse:=by
 have h:∀l:List Ex,jy el l=l.map fun x=>⟨kb x,kG x,kX el x⟩:=fun l=>by
  induction l with
  |nil=>rw[jy];rfl
  |cons a l ih=>rw[jy,ih];rfl
 rw[h,h,List.map_reverse]
theorem LB (l:List Ex) (n:Nat):(jy el l).take n=jy el (l.take n):=by
 have h:∀l:List Ex,jy el l=l.map fun x=>⟨kb x,kG x,kX el x⟩:=fun l=>by
  induction l with
  |nil=>rw[jy];rfl
  |cons a l ih=>rw[jy,ih];rfl
 rw[h,h,List.map_take]
theorem Jy {l:List Ex} (h:l.length=1):∃a,l=[a]:=by
 match l,h with
 |[a],_=>exact⟨a,rfl⟩
theorem JC {l:List Ex} (h:l.length=2):∃a b,l=[a,b]:=by
 match l,h with
 |[a,b],_=>exact⟨a,b,rfl⟩
theorem N9 {l:List Ex} (h:l.length=3):∃a b c,l=[a,b,c]:=by
 match l,h with
 |[a,b,c],_=>exact⟨a,b,c,rfl⟩
theorem I4 (hA:x_ el el') {t v:Int} (ht:qS el t) (hv:nq el t v=true) (hr:3<=t->FV el t v):nT el el' (.mk 1 0 t v ⟨#[]⟩ []):=by
 have hz:mK (.mk 1 0 t v ⟨#[]⟩ [])=1:=by rw[mK,ks]
 have hp:kX el (.mk 1 0 t v ⟨#[]⟩ [])=wm el t v:=by rw[kX];rfl
 by_cases U:t=1
 ·subst U
  rcases JR hv with⟨rfl,o⟩ | ⟨rfl,o⟩
  ·refine Ba (t:=⟨3,⟨#[116,114,117,101]⟩⟩) (tl:=[]) (by rw[hp,o];rfl) (fun r _ _ k I=>?_) ((jk _ _ []).trans rfl) ((jk _ _ []).trans rfl) ((jk _ _ []).trans rfl) ((jk _ _ []).trans rfl) (fun h=>absurd h (show (3:Int)≠2 by decide))
   obtain⟨k,rfl⟩:∃j,k=j+1:=⟨k-1,by omega⟩;rw[hp,o];exact LV k r
  refine Ba (t:=⟨3,⟨#[102,97,108,115,101]⟩⟩) (tl:=[]) (by rw[hp,o];rfl) (fun r _ _ k I=>?_) ((jk _ _ []).trans rfl) ((jk _ _ []).trans rfl) ((jk _ _ []).trans rfl) ((jk _ _ []).trans rfl) (fun h=>absurd h (show (3:Int)≠2 by decide));obtain⟨k,rfl⟩:∃j,k=j+1:=⟨k-1,by omega⟩;rw[hp,o];exact Jr k r
 by_cases R:t=2
 ·subst R
  unfold nq at hv;rw[iG rfl]at hv;simp only[mT,decide_eq_true_eq]at hv;by_cases h0:v<0
  ·have o:wm el 2 v=[mf [45],.tk ⟨2,xF v.natAbs⟩]:=by unfold wm;rw[iV iI,iG rfl,iG h0]
   have J:kb (.mk 1 0 2 v ⟨#[]⟩ [])=false:=by
    rw[kb];simp;omega
   refine wN (fun r hr k I=>?_) (fun r=>by rw[hp,o];exact (kg _ _ _).trans rfl) (fun h=>by rw[J]at h;cases h);rw[hp,o];show jg el' k (⟨4,⟨#[45]⟩⟩::⟨2,xF v.natAbs⟩::r)=_
   have hP:∀k,1<=k->kV el' k (⟨4,⟨#[45]⟩⟩::⟨2,xF v.natAbs⟩::r)=some (.mk 1 0 2 v ⟨#[]⟩ [],r):=fun k I=>by
    obtain⟨k,rfl⟩:∃j,k=j+1:=⟨k-1,iu⟩;rw[PK k v.natAbs iu,show -((v.natAbs:Nat):Int)=v by omega]
   exact ov (Ly hP (MC _ _) hr.wh) ((kg _ _ _).trans rfl) hr k iu
  have o:wm el 2 v=[.tk ⟨2,xF v.toNat⟩]:=by unfold wm;rw[iV iI,iG rfl,iV h0]
  refine Ba (t:=⟨2,xF v.toNat⟩) (tl:=[]) (by rw[hp,o];rfl) (fun r _ _ k I=>?_) rfl rfl rfl rfl (fun _=>by rw[kG];rfl);obtain⟨k,rfl⟩:∃j,k=j+1:=⟨k-1,iu⟩;rw[hp,o];show kV el' (k+1) (⟨2,xF v.toNat⟩::r)=_
  rw[Pa k v.toNat iu,show ((v.toNat:Nat):Int)=v by omega]
 have h3:3<=t:=by
  rcases ht with h | h | h
  ·exact absurd h U
  ·exact absurd h R
  exact h.1
 obtain⟨s,o,hs⟩:=MR (hr h3);refine Ba (t:=⟨1,s⟩) (tl:=[]) (by rw[hp,o];rfl) (fun r _ g2 k I=>?_) rfl rfl rfl rfl (fun h=>absurd h (show (1:Int)≠2 by decide));obtain⟨k,rfl⟩:∃j,k=j+1:=⟨k-1,iu⟩;rw[hp,o];show kV el' (k+1) (⟨1,s⟩::r)=_
 rw[FO,g2,iV iI,hA.tag,hs]
theorem PS {a b:Ex} {o:Int} (h3:3<=o) (h16:o<=16) (ha:nT el el' a) (hb:nT el el' b):nT el el' (.mk 3 o 0 0 ⟨#[]⟩ [a,b]):=by
 have hz:mK (.mk 3 o 0 0 ⟨#[]⟩ [a,b])=1+(mK a+mK b):=by rw[mK,ks,ks,ks];omega
 obtain⟨f1,-,-,-,-,f6,f7,U⟩:=ye o h3 h16;have R:0<mK a:=by cases a;rw[mK];omega
 have J:0<mK b:=by cases b;rw[mK];omega
 have hp:toks (kX el (.mk 3 o 0 0 ⟨#[]⟩ [a,b]))=toks (kM ⟨kb a,kG a,kX el a⟩)++uZ o::(toks (kM ⟨kb b,kG b,kX el b⟩)):=by
  rw[kX];show toks (EA o (jy el [a,b]))=_
  unfold EA;rw[iV iu,iV iu,pz el (i:=0) rfl,pz el (i:=1) rfl,iN,jT,f1];show _++uZ o::toks (.sp 32::_)=_
  rw[jT]
 refine wN (fun r j k I=>?_) (fun r=>by rw[hp,kD];exact ha.np _) (fun h=>by rw[kb]at h;cases h);rw[hp,kD,lP];exact MI (K:=30*(mK a+mK b)-27) h3 h16 (fun k I=>ha.un (r:=uZ o::(toks (kM ⟨kb b,kG b,kX el b⟩)++r)) f7 U f6 k (by omega)) (fun k I=>hb.un j.ev j.pa j.wh k (by omega)) (ha.nt _) (hb.nt _) j k (by omega)
theorem NL {a:Ex} (ha:nT el el' a):nT el el' (.mk 3 1 0 0 ⟨#[]⟩ [a]):=by
 have R:mK (.mk 3 1 0 0 ⟨#[]⟩ [a])=1+mK a:=by rw[mK,ks,ks];omega
 have hp:toks (kX el (.mk 3 1 0 0 ⟨#[]⟩ [a]))=⟨3,⟨#[110,111,116]⟩⟩::toks (kM ⟨kb a,kG a,kX el a⟩):=by
  rw[kX];show toks (EA 1 (jy el [a]))=_
  unfold EA;rw[iG rfl,pz el (i:=0) rfl];rfl
 refine wN (fun r o k I=>?_) (fun r=>by rw[hp];exact (jk _ _ _).trans rfl) (fun h=>by rw[kb]at h;cases h);rw[hp,lP];have J:∀k,30*mK a+16<=k->jB el' k 2 (⟨3,⟨#[110,111,116]⟩⟩::(toks (kM ⟨kb a,kG a,kX el a⟩)++r))=some (.mk 3 1 0 0 ⟨#[]⟩ [a],r):=fun k I=>by
  obtain⟨k,rfl⟩:∃j,k=j+1:=⟨k-1,iu⟩;rw[jB,iG rfl,jk,iG iI,ry];have:=vb (n:=1) (ha.un o.ev o.pa o.wh) (ha.nt r) iI iI (fun m _ _=>o.op m) k iu;rw[show (1:Int)+1=2 from rfl]at this;rw[this];rfl
 exact wX (Gj J (.inl (by decide)) (by decide) (by decide) o.op) o k (by omega)
theorem M0 {a:Ex} (ha:nT el el' a):nT el el' (.mk 3 2 0 0 ⟨#[]⟩ [a]):=by
 have hz:mK (.mk 3 2 0 0 ⟨#[]⟩ [a])=1+mK a:=by rw[mK,ks,ks];omega
 cases hc:kG a with
 |true=>
  have hp:toks (kX el (.mk 3 2 0 0 ⟨#[]⟩ [a]))=⟨4,⟨#[45]⟩⟩::⟨4,⟨#[40]⟩⟩::(toks (kX el a)++[⟨4,⟨#[41]⟩⟩]):=by
   rw[kX];show toks (EA 2 (jy el [a]))=_
   unfold EA;rw[iV iI,iG rfl,pz el (i:=0) rfl,hc,iG rfl,lK,lK,iN];rfl
  refine wN (fun r o k J=>?_) (fun r=>by rw[hp];exact (kg _ _ _).trans rfl) (fun h=>by rw[kb]at h;cases h);rw[hp,lP,lP,kD];have R:∀k,30*mK a+4<=k->xu el' k (⟨4,⟨#[45]⟩⟩::⟨4,⟨#[40]⟩⟩::(toks (kX el a)++[⟨4,⟨#[41]⟩⟩]++r))=some (.mk 3 2 0 0 ⟨#[]⟩ [a],r):=fun k J=>by
   obtain⟨k,rfl⟩:∃j,k=j+1:=⟨k-1,iu⟩;have I:rI (⟨4,⟨#[45]⟩⟩::⟨4,⟨#[40]⟩⟩::(toks (kX el a)++[⟨4,⟨#[41]⟩⟩]++r))=false:=by unfold rI;rw[ry];show (_&&((4:Int)==2))=false;rw[Bool.and_eq_false_iff];exact .inr rfl
   rw[xu,I,iV iI,kg,iG iI,ry,kD];have hP:=tJ (Ht (ha.e (⟨4,⟨#[41]⟩⟩::r) (AN (by decide +kernel) r))) ((kg _ _ _).trans rfl) ((kg _ _ _).trans rfl) o.wh k iu;show (xu el' k (⟨4,⟨#[40]⟩⟩::(toks (kX el a)++⟨4,⟨#[41]⟩⟩::r))).bind _=_
   rw[hP];rfl
  rw[<- kD];exact ov R ((kg _ _ _).trans rfl) o k (by omega)
 |false=>
 have hp:toks (kX el (.mk 3 2 0 0 ⟨#[]⟩ [a]))=⟨4,⟨#[45]⟩⟩::toks (kM ⟨kb a,kG a,kX el a⟩):=by
  rw[kX];show toks (EA 2 (jy el [a]))=_
  unfold EA;rw[iV iI,iG rfl,pz el (i:=0) rfl];show toks (if kG a=true then _ else _)=_
  rw[hc,iV iI];rfl
 refine wN (fun r o k J=>?_) (fun r=>by rw[hp];exact (kg _ _ _).trans rfl) (fun h=>by rw[kb]at h;cases h);rw[hp,lP];have R:∀k,30*mK a+4<=k->xu el' k (⟨4,⟨#[45]⟩⟩::(toks (kM ⟨kb a,kG a,kX el a⟩)++r))=some (.mk 3 2 0 0 ⟨#[]⟩ [a],r):=fun k J=>by
  obtain⟨k,rfl⟩:∃j,k=j+1:=⟨k-1,iu⟩;have I:rI (⟨4,⟨#[45]⟩⟩::(toks (kM ⟨kb a,kG a,kX el a⟩)++r))=false:=by
   obtain⟨t,tl,U,-,-,-,g⟩:=ha.hd;unfold rI;rw[U,ry];show (_&&(t.kind==2))=false
   rw[Bool.and_eq_false_iff];refine .inr ?_;rw[beq_eq_false_iff_ne];intro h;rw[g h]at hc;cases hc
  rw[xu,I,iV iI,kg,iG iI,ry,ha.un o.ev o.pa o.wh k iu];rfl
 exact ov R ((kg _ _ _).trans rfl) o k (by omega)
theorem JA {a b:Ex} (ha:nT el el' a) (hb:nT el el' b):nT el el' (.mk 6 0 0 0 ⟨#[]⟩ [a,b]):=by
 have hz:mK (.mk 6 0 0 0 ⟨#[]⟩ [a,b])=1+(mK a+mK b):=by rw[mK,ks,ks,ks];omega
 have R:0<mK a:=by cases a;rw[mK];omega
 have J:0<mK b:=by cases b;rw[mK];omega
 have hp:toks (kX el (.mk 6 0 0 0 ⟨#[]⟩ [a,b]))=toks (kM ⟨kb a,kG a,kX el a⟩)++⟨4,⟨#[45,62]⟩⟩::(toks (kM ⟨kb b,kG b,kX el b⟩)):=by
  rw[kX];show toks (kM (pF (jy el [a,b]) 0)++.sp 32::mf [45,62]::.sp 32::kM (pF (jy el [a,b]) 1))=_
  rw[pz el (i:=0) rfl,pz el (i:=1) rfl,iN,jT,lK,jT]
 refine wN (fun r o k hk=>?_) (fun r=>by rw[hp,kD];exact ha.np _) (fun h=>by rw[kb]at h;cases h);rw[hp,kD,lP];obtain⟨k,rfl⟩:∃j,k=j+1:=⟨k-1,by omega⟩;have U:=ha.un (r:=⟨4,⟨#[45,62]⟩⟩::(toks (kM ⟨kb b,kG b,kX el b⟩)++r)) (kg _ _ _ |>.trans rfl) (kg _ _ _ |>.trans rfl) (kg _ _ _ |>.trans rfl);have I:=vb (n:=-1) U (ha.nt _) (by decide) (by decide) (fun m _ _=>ET (t:=⟨4,⟨#[45,62]⟩⟩) (by decide +kernel) (by decide +kernel) (by decide +kernel) (by decide +kernel) (by decide +kernel) _ m) k (by omega);rw[show (-1:Int)+1=0 from rfl]at I;rw[jg,I];show (if jq ⟨#[45,62]⟩ (⟨4,⟨#[45,62]⟩⟩::_) then (jg el' k (toks (kM ⟨kb b,kG b,kX el b⟩)++r)).bind _ else _)=_
 rw[kg,iG iI,ov (hb.un o.ev o.pa o.wh) (hb.nt r) o k iu];rfl
theorem Od {a b:Ex} (ha:nT el el' a) (hb:nT el el' b):nT el el' (.mk 7 0 0 0 ⟨#[]⟩ [a,b]):=by
 have hz:mK (.mk 7 0 0 0 ⟨#[]⟩ [a,b])=1+(mK a+mK b):=by rw[mK,ks,ks,ks];omega
 have R:0<mK a:=by cases a;rw[mK];omega
 have J:0<mK b:=by cases b;rw[mK];omega
 have hp:toks (kX el (.mk 7 0 0 0 ⟨#[]⟩ [a,b]))=toks (kM ⟨kb a,kG a,kX el a⟩)++⟨3,⟨#[102,98,121]⟩⟩::(toks (kM ⟨kb b,kG b,kX el b⟩)):=by
  rw[kX];show toks (kM (pF (jy el [a,b]) 0)++.sp 32::mB [102,98,121]::.sp 32::kM (pF (jy el [a,b]) 1))=_
  rw[pz el (i:=0) rfl,pz el (i:=1) rfl,iN,jT,pd,jT]
 refine wN (fun r o k hk=>?_) (fun r=>by rw[hp,kD];exact ha.np _) (fun h=>by rw[kb]at h;cases h);rw[hp,kD,lP];obtain⟨k,rfl⟩:∃j,k=j+1:=⟨k-1,by omega⟩;have U:=ha.un (r:=⟨3,⟨#[102,98,121]⟩⟩::(toks (kM ⟨kb b,kG b,kX el b⟩)++r)) (jk _ _ _ |>.trans rfl) (jk _ _ _ |>.trans rfl) (jk _ _ _ |>.trans rfl);have I:=vb (n:=-1) U (ha.nt _) (by decide) (by decide) (fun m _ _=>ET (t:=⟨3,⟨#[102,98,121]⟩⟩) (by decide +kernel) (by decide +kernel) (by decide +kernel) (by decide +kernel) (by decide +kernel) _ m) k (by omega);rw[show (-1:Int)+1=0 from rfl]at I;rw[jg,I];show (if jq ⟨#[45,62]⟩ (⟨3,⟨#[102,98,121]⟩⟩::_) then _ else if jq ⟨#[102,98,121]⟩ (⟨3,⟨#[102,98,121]⟩⟩::_) then (jg el' k (toks (kM ⟨kb b,kG b,kX el b⟩)++r)).bind _ else _)=_
 rw[jk,iV iI,jk,iG iI,ov (hb.un o.ev o.pa o.wh) (hb.nt r) o k iu];rfl
theorem MN {a:Ex} (ha:nT el el' a):nT el el' (.mk 5 0 0 0 ⟨#[]⟩ [a]):=by
 have R:mK (.mk 5 0 0 0 ⟨#[]⟩ [a])=1+mK a:=by rw[mK,ks,ks];omega
 have hp:toks (kX el (.mk 5 0 0 0 ⟨#[]⟩ [a]))=⟨3,⟨#[112,114,101]⟩⟩::toks (kM ⟨kb a,kG a,kX el a⟩):=by
  rw[kX];show toks (mB [112,114,101]::.sp 32::kM (pF (jy el [a]) 0))=_
  rw[pz el (i:=0) rfl];rfl
 refine wN (fun r o k I=>?_) (fun r=>by rw[hp];exact (jk _ _ _).trans rfl) (fun h=>by rw[kb]at h;cases h);rw[hp,lP];have J:∀k,30*mK a+4<=k->xu el' k (⟨3,⟨#[112,114,101]⟩⟩::(toks (kM ⟨kb a,kG a,kX el a⟩)++r))=some (.mk 5 0 0 0 ⟨#[]⟩ [a],r):=fun k I=>by
  obtain⟨k,rfl⟩:∃j,k=j+1:=⟨k-1,iu⟩;rw[xu,zN _ _ ((jk _ _ []).trans rfl),iV iI,jk,iV iI,jk,iG iI,ry,ha.un o.ev o.pa o.wh k iu];rfl
 exact ov J ((jk _ _ _).trans rfl) o k (by omega)
theorem LU (hA:x_ el el') {a:Ex} {t v:Int} {s:ByteArray} (h2:t≠2) (ht:qS el t) (hv:nq el t v=true) (hr3:3<=t->FV el t v) (ha:nT el el' a):nT el el' (.mk 8 0 t v s [a]):=by
 have hz:mK (.mk 8 0 t v s [a])=1+mK a:=by rw[mK,ks,ks];omega
 obtain⟨I,e1,e2,-,-⟩:=Bt hA h2 ht hv hr3;have hp:toks (kX el (.mk 8 0 t v s [a]))=toks (kM ⟨kb a,kG a,kX el a⟩)++⟨3,⟨#[119,104,101,110]⟩⟩::I::⟨4,⟨#[40]⟩⟩::⟨1,s⟩::[⟨4,⟨#[41]⟩⟩]:=by
  rw[kX];show toks (kM (pF (jy el [a]) 0)++.sp 32::FX el t v s)=_
  unfold FX;rw[pz el (i:=0) rfl,iN,jT,pd,jT,iN,e1];rfl
 refine wN (fun r hr k hk=>?_) (fun r=>by rw[hp,kD];exact ha.np _) (fun h=>by rw[kb]at h;cases h);rw[hp,kD];have hU:∀k,30*mK a+4<=k->xu el' k (toks (kM ⟨kb a,kG a,kX el a⟩)++((⟨3,⟨#[119,104,101,110]⟩⟩::I::⟨4,⟨#[40]⟩⟩::⟨1,s⟩::[⟨4,⟨#[41]⟩⟩])++r))=some (.mk 8 0 t v s [a],r):=fun k hk=>by
  obtain⟨k,rfl⟩:∃j,k=j+3:=⟨k-3,iu⟩;have hP:=ha.o ((⟨3,⟨#[119,104,101,110]⟩⟩::I::⟨4,⟨#[40]⟩⟩::⟨1,s⟩::[⟨4,⟨#[41]⟩⟩])++r) ((jk _ _ _).trans rfl) ((jk _ _ _).trans rfl) (k+2) iu;obtain⟨t9,a6,J,g1,g2,-,-⟩:=ha.hd;have a1:rI (toks (kM ⟨kb a,kG a,kX el a⟩)++((⟨3,⟨#[119,104,101,110]⟩⟩::I::⟨4,⟨#[40]⟩⟩::⟨1,s⟩::[⟨4,⟨#[41]⟩⟩])++r))=false:=by rw[J];exact zN _ _ g1
  have U:jq ⟨#[45]⟩ (toks (kM ⟨kb a,kG a,kX el a⟩)++((⟨3,⟨#[119,104,101,110]⟩⟩::I::⟨4,⟨#[40]⟩⟩::⟨1,s⟩::[⟨4,⟨#[41]⟩⟩])++r))=false:=by rw[J];exact g1
  have R:jq ⟨#[112,114,101]⟩ (toks (kM ⟨kb a,kG a,kX el a⟩)++((⟨3,⟨#[119,104,101,110]⟩⟩::I::⟨4,⟨#[40]⟩⟩::⟨1,s⟩::[⟨4,⟨#[41]⟩⟩])++r))=false:=by rw[J];exact g2
  rw[xu,a1,iV iI,U,iV iI,R,iV iI,hP];show mO el' (k+2) a (⟨3,⟨#[119,104,101,110]⟩⟩::I::⟨4,⟨#[40]⟩⟩::⟨1,s⟩::⟨4,⟨#[41]⟩⟩::r)=_
  rw[mO,jk,iG iI,ry];have hs:mD el' (I::⟨4,⟨#[40]⟩⟩::⟨1,s⟩::⟨4,⟨#[41]⟩⟩::r)=some (⟨s,t,v⟩,r):=by
   unfold mD;rw[e2];show (iF [⟨#[40]⟩] (⟨4,⟨#[40]⟩⟩::_)).bind _=_
   rw[lJ [40]];show (iF [⟨#[41]⟩] (⟨4,⟨#[41]⟩⟩::r)).bind _=_
   rw[lJ [41]];rfl
  rw[hs];show mO el' (k+1) (.mk 8 0 t v s [a]) r=_
  rw[mO,hr.wh,iV iI]
 exact ov hU (ha.nt _) hr k (by omega)
theorem PB {a b c:Ex} (ha:nT el el' a) (hb:nT el el' b) (hc:nT el el' c):nT el el' (.mk 4 0 0 0 ⟨#[]⟩ [a,b,c]):=by
 have J:mK (.mk 4 0 0 0 ⟨#[]⟩ [a,b,c])=1+(mK a+mK b+mK c):=by rw[mK,ks,ks,ks,ks];omega
 have hp:toks (kX el (.mk 4 0 0 0 ⟨#[]⟩ [a,b,c]))=⟨3,⟨#[105,102]⟩⟩::(toks (kX el a)++⟨3,⟨#[116,104,101,110]⟩⟩::(toks (kX el b)++⟨3,⟨#[101,108,115,101]⟩⟩::toks (kX el c))):=by
  rw[kX];show toks (mB [105,102]::.sp 32::((pF (jy el [a,b,c]) 0).l++.sp 32::mB [116,104,101,110]::.sp 32::((pF (jy el [a,b,c]) 1).l++.sp 32::mB [101,108,115,101]::.sp 32::(pF (jy el [a,b,c]) 2).l)))=_
  rw[pz el (i:=0) rfl,pz el (i:=1) rfl,pz el (i:=2) rfl,pd,jT,iN,jT,pd,jT,iN,jT,pd,jT]
 refine wN (fun r j k o=>?_) (fun r=>by rw[hp];exact (jk _ _ _).trans rfl) (fun h=>by rw[kb]at h;cases h);rw[hp];simp only[lP,kD];have I:=Ox (K:=30*(mK a+mK b+mK c)) (fun k o=>ha.e _ (AN (t:=⟨3,⟨#[116,104,101,110]⟩⟩) (by decide +kernel) (toks (kX el b)++⟨3,⟨#[101,108,115,101]⟩⟩::(toks (kX el c)++r))) k iu)
  (fun k o=>hb.e _ (AN (t:=⟨3,⟨#[101,108,115,101]⟩⟩) (by decide +kernel) (toks (kX el c)++r)) k iu) (fun k o=>hc.e r j k iu)
 exact ov (tJ I ((jk _ _ _).trans rfl) ((jk _ _ _).trans rfl) j.wh) ((jk _ _ _).trans rfl) j k (by omega)
theorem Jl (hA:x_ el el') {t:Int} {s:ByteArray} {xs:List Ex} (h2:t≠2) (ht:qS el t) (hn:xs.length=jV el t) (h1:1<=xs.length) (hr3:3<=t->∀j:Nat,j<xs.length->FV el t j) (hb:∀a∈xs,nT el el' a):nT el el' (.mk 9 0 t 0 s xs):=by
 have hz:mK (.mk 9 0 t 0 s xs)=1+ks xs:=by rw[mK]
 obtain⟨I,o⟩:=jt ((if t=1 then xs.reverse else xs));have J:I.length=xs.length:=by rw[<- o];split<;>simp
 have a6:ks I=ks xs:=by rw[<- o];split<;>simp[vJ]
 have U:∀a∈I,nT el el' a:=by
  rw[<- o];split
  ·exact fun a h=>hb a (List.mem_reverse.1 h)
  exact hb
 have R:(if t=1 then I.reverse else I)=xs:=by
  rw[<- o];by_cases h:t=1
  ·rw[iG h,iG h,List.reverse_reverse]
  rw[iV h,iV h]
 have hp:toks (kX el (.mk 9 0 t 0 s xs))=⟨3,⟨#[109,101,114,103,101]⟩⟩::⟨1,s⟩::toks (wj el t 0 (jy el I)):=by
  rw[kX];show toks (mB [109,101,114,103,101]::.sp 32::rM s::wj el t 0 (if t=1 then (jy el xs).reverse else jy el xs))=_
  rw[pd,jT,um,show (if t=1 then (jy el xs).reverse else jy el xs)=jy el I from by rw[<- o];split<;>simp[Mu]]
 refine wN (fun r hr k hk=>?_) (fun r=>by rw[hp];exact (jk _ _ _).trans rfl) (fun h=>by rw[kb]at h;cases h);cases I with
 |nil=>rw[<- J]at h1;simp at h1
 |cons a l=>
 rw[py]at J;have hP:=IN hA (s:=s) h2 ht hn hr3 a l r iu (fun b a1=>(U b a1).e);rw[R]at hP;rw[hp,lP,lP];exact ov (tJ hP ((jk _ _ _).trans rfl) ((jk _ _ _).trans rfl) hr.wh) ((jk _ _ _).trans rfl) hr k (by omega)
theorem LO {v:Int} {s:ByteArray} {xs:List Ex} (hv:v=0\/(v=1/\1<=xs.length)) (hb:∀a∈xs,nT el el' a):nT el el' (.mk 10 0 0 v s xs):=by
 have hz:mK (.mk 10 0 0 v s xs)=1+ks xs:=by rw[mK]
 have R:kX el (.mk 10 0 0 v s xs)=AU v s (jy el xs):=by rw[kX];rfl
 rcases hv with rfl | ⟨rfl,h1⟩
 ·have hp:toks (kX el (.mk 10 0 0 0 s xs))=⟨1,s⟩::⟨4,⟨#[40]⟩⟩::(toks (mq qR ((jy el xs).map Ar.l))++[⟨4,⟨#[41]⟩⟩]):=by
   rw[R];unfold AU;rw[iV iI,show (jy el xs).length-(0:Int).toNat=(jy el xs).length from rfl,pf,um,lK,iN];rfl
  refine Ba hp (fun r g1 g2 k hk=>?_) rfl rfl rfl rfl (fun h=>absurd h (show (1:Int)≠2 by decide));rw[hp,lP,lP,kD];exact D' xs (fun a J=>(hb a J).e) (fun a J=>(hb a J).he) (K:=30*ks xs+1) (fun k hk=>IQ (by omega) s xs g1) (js _) k (by omega)
 obtain⟨I,z,rfl⟩:∃I z,xs=I++[z]:=⟨xs.dropLast,xs.getLast (by intro h;rw[h]at h1;simp at h1),(List.dropLast_concat_getLast _).symm⟩;have a1:=hb z (by simp);have a6:ks (I++[z])=ks I+mK z:=by rw[qI,ks,ks];omega
 have hl:(jy el (I++[z])).length-(1:Int).toNat=I.length:=by rw[nD,mo];rfl
 have U:(jy el (I++[z])).length-1=I.length:=hl;have hp:toks (kX el (.mk 10 0 0 1 s (I++[z])))=⟨1,s⟩::⟨4,⟨#[40]⟩⟩::(toks (mq qR ((jy el I).map Ar.l))++⟨4,⟨#[41]⟩⟩::⟨3,⟨#[101,118,101,114,121]⟩⟩::toks (kM ⟨kb z,kG z,kX el z⟩)):=by
  rw[R];unfold AU;rw[iG rfl,hl,U,LB,List.take_left,pz el (i:=I.length) (x:=z) (by simp),um,lK,iN,lK,jT,pd,jT]
 refine Ba hp (fun r g1 g2 k hk=>?_) rfl rfl rfl rfl (fun h=>absurd h (show (1:Int)≠2 by decide));rw[hp];simp only[lP,kD];exact D' I (fun a J=>(hb a (List.mem_append_left _ J)).e) (fun a J=>(hb a (List.mem_append_left _ J)).he) (K:=30*(ks I+mK z)+5)
  (Jd s I (fun j hj=>a1.o r g1 g2 j (by omega)) (by omega)) (by omega) k (by omega)
theorem Oc (hA:x_ el el') {s:ByteArray} (hs:qh el s=none):nT el el' (.mk 2 0 0 0 s []):=by
 have I:mK (.mk 2 0 0 0 s [])=1:=by rw[mK,ks]
 have hp:toks (kX el (.mk 2 0 0 0 s []))=[⟨1,s⟩]:=by rw[kX];rfl
 refine Ba hp (fun r R o k J=>?_) rfl rfl rfl rfl (fun h=>absurd h (show (1:Int)≠2 by decide));obtain⟨k,rfl⟩:∃j,k=j+1:=⟨k-1,by omega⟩;rw[hp];show kV el' (k+1) (⟨1,s⟩::r)=_
 rw[FO,o,iV iI,hA.tag,hs]
theorem LW {s:ByteArray}:nT el el' (.mk 11 0 0 0 s []):=by
 have o:mK (.mk 11 0 0 0 s [])=1:=by rw[mK,ks]
 have hp:toks (kX el (.mk 11 0 0 0 s []))=[⟨5,s⟩]:=by rw[kX];rfl
 refine Ba hp (fun r R J k I=>?_) rfl rfl rfl rfl (fun h=>absurd h (show (5:Int)≠2 by decide));obtain⟨k,rfl⟩:∃j,k=j+1:=⟨k-1,by omega⟩;rw[hp];exact OI k s r
mutual
theorem Gf (hA:x_ el el'):∀x:Ex,GE el x->AX el x->nT el el' x
 |.mk k o t v s xs,hg,ha=>by
  rw[GE]at hg;rw[AX]at ha;have hb:=Em hA xs hg.2 ha.2;obtain⟨q1,q2,q3,q4,q5⟩:=ha.1;obtain⟨-,⟨rfl,rfl,hn,rfl,ht,hv⟩ | ⟨rfl,rfl,rfl,rfl,hn,hs⟩ | ⟨rfl,ho,rfl,rfl,rfl⟩ | ⟨hk,rfl,rfl,rfl,rfl⟩ | ⟨rfl,rfl,hn,ht2,ht,hv,hs⟩ | ⟨rfl,rfl,rfl,ht2,ht,hn,h1n,hs⟩ | ⟨rfl,rfl,rfl,hv,hs⟩ | ⟨rfl,rfl,rfl,rfl,hn,hs⟩⟩:=hg.1
  ·obtain rfl:xs=[]:=B_ hn
   exact I4 hA ht hv (q2 rfl)
  ·obtain rfl:xs=[]:=B_ hn
   exact Oc hA (q3 rfl)
  ·rcases ho with⟨h1,h2,hn⟩ | ⟨h1,h2,hn⟩
   ·obtain⟨a,rfl⟩:=Jy hn
    rcases (by omega:o=1\/o=2) with rfl | rfl
    ·exact NL (hb a (by simp))
    exact M0 (hb a (by simp))
   obtain⟨a,b,rfl⟩:=JC hn;exact PS h1 h2 (hb a (by simp)) (hb b (by simp))
  ·rcases hk with⟨rfl,hn⟩ | ⟨rfl,hn⟩ | ⟨rfl,hn⟩ | ⟨rfl,hn⟩
   ·obtain⟨a,b,c,rfl⟩:=N9 hn
    exact PB (hb a (by simp)) (hb b (by simp)) (hb c (by simp))
   ·obtain⟨a,rfl⟩:=Jy hn
    exact MN (hb a (by simp))
   ·obtain⟨a,b,rfl⟩:=JC hn
    exact JA (hb a (by simp)) (hb b (by simp))
   obtain⟨a,b,rfl⟩:=JC hn;exact Od (hb a (by simp)) (hb b (by simp))
  ·obtain⟨a,rfl⟩:=Jy hn
   exact LU hA ht2 ht hv (q4 rfl) (hb a (by simp))
  ·exact Jl hA ht2 ht hn h1n (q5 rfl) hb
  ·exact LO hv hb
  obtain rfl:xs=[]:=B_ hn;exact LW
theorem Em (hA:x_ el el'):∀xs:List Ex,IE el xs->tj el xs->∀a∈xs,nT el el' a
 |[],_,_,a,h=>by simp at h
 |x::xs,hg,ha,a,h=>by
  rw[IE]at hg;rw[tj]at ha;rcases uW.1 h with h | h
  ·rw[h];exact Gf hA x hg.1 ha.1
  exact Em hA xs hg.2 ha.2 a h
end
end
end
section
open Go.Proofs.Tryz
section
variable {B:World} {q:Nat} {A:Option Addr} {c:Nat} {L:List Tk} {en:Int} {eA:Option Addr} {ec:Nat} {el:List iW} {w w0 w1:World} {i:Nat}
theorem NU:(prog.info? 77).map (fun i=>(i.zero,i.size,i.bytes))=some (some (.agg #[.string ⟨#[]⟩,.int .i64 0,.slice none 0 0]),3,48):=by kernel_rfl
theorem BW {ts:List Tk} (h:ju 1 ts=false):pV ts=none:=by
 cases ts with
 |nil=>rfl
 |cons t l=>
 show (if t.kind==1 then _ else _)=_
 rw[show (t.kind==1)=false from h];rfl
theorem II {el:List iW} {ts:List Tk} (h:ju 1 ts=false):wG el ts=none:=by
 unfold wG;rw[BW h];rfl
theorem Cq {W:World} {b o:Nat} {y:iO} (h:SF W y) (hj:∀j u,(CJ y)[j]?=some u->W.cell? ⟨b,o+j,none⟩=some u):jG W b o y:=
 ⟨Int.le_trans h.tb iI,hj 0 _ rfl,hj 1 _ rfl,hj 2 _ rfl,jW h.nm iI,h.cl⟩
theorem Ac {M:Nat} (hM:M<=1000) (ob:Bool) (htag:∀u∈el,u.tags.l.length<=16) (hel:el.length<=1000) (h:Rd B q A c L en eA ec el w i):Calls prog 69 #[.pointer (some q),.int .i64 (M:Nat),.bool ob] w (pk B q A c L en eA ec el w i (mv el ob M [] (L.drop i)) (VL 3 jG iO.er w.heap.size)):=by
 obtain⟨X,hX⟩:=jt (mv el ob M [] (L.drop i));rw[hX];obtain⟨i0,b_⟩:=jt (i);rw[b_]at hX h⊢;have HX:=iy hX.symm;have aY:Hid (i0<=i0):=js _;have hq:=h.blk.lt;have ba:=h.base;obtain⟨w0,rfl⟩:∃v,v=w:=⟨_,rfl⟩;have aw0:ik w0 w0:=iq _;have R0:=iy h;have a0:ik (iz q w0) (iz q w0):=iq _;have bk:q<w0.heap.size:=by omega
 have bl:B.heap.size<=w0.heap.size:=by omega
 clear h;go_in;go_wp2_with fail;obtain⟨n1,aj⟩:=jt (w0.heap.size);have J:q<n1:=iu;have a1:=lI aj.symm;have bq:B.heap.size<=n1:=iu;have bp:=lI aj;go_loopw [7] (fun v7 wr=>∃(i' m:Nat) (ys:List iO),Hid (i0<=i')/\Hid (ys.length+m=M)/\Hid (X=mv el ob m (ys.map iO.er) (L.drop i'))/\Hid (Rd B q A c L en eA ec el wr i')/\ik (iz q w0) (iz q wr)/\n1<=wr.heap.size/\Hid (kZ n1 77 3 CJ SF (fun b=>decide (b<n1)) wr v7 ys)) (fun _ wr=>L.length-lO wr q 2)
 case atStart=>exact⟨i0,M,[],aY,iy (t_ M),HX,R0,a0,a1,vZ⟩
 case round=>
 clear HX R0 a1;obtain⟨i2,m,ys,aJ,af,HX,aE,bd,a1,OL⟩:=hrel;have d1:=iy (je aE.fields.2.2.1);obtain⟨A7,c7,b6,_,_⟩:=ji OL.own;subst b6;have HC:=iy (qv aE 1);obtain⟨zk,hz⟩:=jt (ju 1 (L.drop i2));rw[hz]at HC;have HZ:=iy hz;clear hz;go_wp2_with fail;refine HC.mono ?_;clear HC;rintro e bn ⟨rfl,aN⟩;have aD:=iy (aE.after aN);have az:=im (q:=q) aN;have aV:=ij bd az;have aI:=aJ;have a1:=jW a1 aN.below.size;clear aN;replace OL:=iy (OL.out.iv qe J (lp J) az);cases zk
 ·skip
  have aP:=II (el:=el) HZ;have aF:Hid (X=none):=by (show _=_;rw[HX.out];cases m with | zero=>rfl | succ m=>(rw[mv,aP];rfl))
  have HC:=GI htag hel aD;rw[aP]at HC;have HC:=iy HC;go_wp2_with fail;refine HC.mono ?_;rintro e aA ⟨aZ,hY⟩;obtain⟨a,er,rfl,he⟩:=hY;unfold oD;go_wp2;exact⟨rfl,kf aF (ij (im aw0) (ij aV aZ)) (jz a er he)⟩
 have HC:=iy (mF aD (ys.length:Int) (M:Int));go_wp2_with fail;refine HC.mono ?_;clear HC;rintro e aA ⟨aN,hE⟩;have bg:=iy (aD.after aN);have ay:=im (q:=q) aN;have aU:=ij aV ay;have aH:=aI;have a1:=jW a1 aN.below.size;clear aN;replace OL:=iy (OL.out.iv qe J (lp J) ay);rcases hE with⟨hlt4,rfl⟩ | ⟨hge4,hf⟩
 ·skip
  obtain⟨m,rfl⟩:∃j,m=j+1:=⟨m-1,by have:=af.out;omega⟩;have HX:Hid (X=(wG el (L.drop i2)).bind fun (d,r)=>if !jq ⟨#[59]⟩ r||(ob&&!ju 1 r.tail) then some (ys.map iO.er++[d],r) else mv el ob m (ys.map iO.er++[d]) r.tail):=HX;have b':∀b,(Value.slice A7 ys.length c7).ownBlock=some b->b<aA.heap.size:=fun b hb=>(OL.own.lt b hb).2
  have b8:n1<=aA.heap.size:=a1;go_wp2_with fail;refine td (GI htag hel bg.out) HX aU aH ?_;clear HX;intro ah aW bo I aO bf HX aG aw ax bc;obtain⟨⟨dn,dt,⟨dA,dc,dl⟩⟩,b0,rfl,D9⟩:=aO;have a1:n1<=ah.heap.size:=by have h1:=lZ ax;omega
  have aS:Value.agg (CJ ⟨dn,dt,⟨dA,dc,dl⟩⟩).toArray=.agg #[dn,dt,.slice dA dl.length dc]:=rfl;rw[aS];clear aS;replace OL:=iy (OL.out.iv qe J (lp J) ax);have bs:ys.length<=100000:=by have:=af.out;omega
  obtain⟨bm,au,be,bb,aB⟩:∃z,ah.alloc (.cells #[dn,dt,.slice dA dl.length dc] 77)=z/\Rd B q A c L en eA ec el z I/\ik (iz q w0) (iz q z)/\ik ah z:=⟨_,rfl,bf.out.after iR,ij bc (im iR),iR⟩;have ag:=OL.out.after qe aB;have bj:=qe.below _ _ _ (jK aB).below D9;have aL:=iy au;clear au;have br:n1<=ah.heap.size:=a1;go_wp2_with (at_builtin;obtain⟨i0_,hi0_,hz0_,hz1_,hz2_⟩:=info_parts NU;refine ka (ah.alloc (.cells #[dn,dt,.slice dA dl.length dc] 77)) rfl (.tmp 15) (.tmp 18) 60 rfl n1 77 i0_ _ 3 _ underlying60 hi0_ hz0_ hz1_ hz2_ rfl iI (.slice A7 ys.length c7) ys.length (ys.flatMap CJ) rfl (by rw[aL.out];exact ag.own) _ _ 1 1 [.string dn,.int .i64 dt,.slice dA dl.length dc] rfl (ki (w:=ah) rfl #[dn,dt,.slice dA dl.length dc] 77 _ rfl 1 3 rfl) (by intro u hu;simp only[la]at hu;rcases hu with rfl | rfl | rfl<;>rfl) (by unfold maxLen;omega) iu (by rw[iH];omega) ?_;rw[aL.out];intro v5 w25 own5 hg5 hb5;clear hi0_ hz0_ hz1_ hz2_;have own5:=iy own5;have hg5:=iy hg5;have hb5:=iy hb5)
  have bh:=iy (ag.add qe bj (fun b hb=>by (have hb:=vO hb;have h2:=b8;omega)) b' own5.out hg5.out hb5.out);have a':=iy (be.grown ag.own hg5 J iu);have an:=kF bb ag.own hg5 J iu;have ai:=jW (jW a1 aB.below.size) hg5.size;have ad:=aG;obtain⟨A5,c5,b7,_,_⟩:=ji own5;have OL:=bh;have a1:=ai;subst b7;have aK:Hid ((ys++[(iO.mk dn dt ⟨dA,dc,dl⟩)]).map iO.er=ys.map iO.er++[aW]):=by (show _=_;rw[s_,<- b0];rfl)
  have HX:Hid (X=if !jq ⟨#[59]⟩ (L.drop I)||(ob&&!ju 1 (L.drop I).tail) then some ((ys++[(iO.mk dn dt ⟨dA,dc,dl⟩)]).map iO.er,L.drop I) else mv el ob m ((ys++[(iO.mk dn dt ⟨dA,dc,dl⟩)]).map iO.er) (L.drop I).tail):=by (show _=_;rw[aK.out];exact HX)
  have a7:Hid ((ys++[(iO.mk dn dt ⟨dA,dc,dl⟩)]).length+m=M):=by (show _=_;rw[mo];have:=af.out;simp;omega)
  have HY:Hid (∀U,ik w25 U->Calls prog 30 #[.pointer (some q),.string ⟨#[59]⟩] U fun e w'=>e=.returned (.bool (jq ⟨#[59]⟩ (L.drop I)))/\ik U w'):=fun U hU=>nK (a'.after hU) _
  rw[tail_drop]at HX;have av:jq ⟨#[59]⟩ (L.drop I)=true->I<L.length:=pI;generalize jq ⟨#[59]⟩ (L.drop I)=z1 at HY HX av;obtain⟨c0,c1,aT,c3,f2,l0⟩:=a'.fields;obtain⟨b1,b2,b3,b4⟩:=a'.bounds;cases z1
  ·skip
   have aa:=iy (HX.trans (iG (by rfl)));go_wp2_with fail;refine iE kp kp ?_;repeat (go_big_quiet_step ((go_at_call 30;exact mR ((HY _ iR).mono fun e w' h=>⟨h.1,jP _ _ (h:=h.2)⟩))))
   refine wpQuiet_nil ?_;rintro _ ⟨y_,rfl⟩;obtain⟨ab,a6,aM⟩:∃z,World.more w25 y_=z/\ik w25 z:=⟨_,rfl,iR⟩;try rw[a6]
   have a8:=iy (a'.after aM);have R:=im (q:=q) aM;have a_:=ij an R;replace OL:=iy (OL.out.iv qe J (lp J) R);obtain⟨AF,cF,ae,DF⟩:=OL.row (P:=jG) qe (fun b hb=>lp hb) (fun y=>rfl) (by have:=a7.out;omega) (fun W b o y hy hj=>Cq hy hj);have b5:Value.slice A5 (ys.length+1) c5=.slice AF (ys.length+1) cF:=by (rw[ae,mo];rfl)
   have aq:=aa;go_wp2;exact jR (v:=.slice A5 (ys.length+1) c5) (by simp[results,results69,go_sem]) rfl (lN (x:=(ys++[(iO.mk dn dt ⟨dA,dc,dl⟩)]).map iO.er) aq (ij (im aw0) a_) ⟨AF,cF,(ys++[(iO.mk dn dt ⟨dA,dc,dl⟩)]),ae,rfl,by rw[aj];exact DF⟩ a8 rfl ad)
  have aQ:=av rfl;cases ob
  ·skip
   have aa:=iy (HX.trans (iV (by simp)));go_wp2_with fail;refine iE kp kp ?_;repeat (go_big_quiet_step ((go_at_call 30;exact mR ((HY _ iR).mono fun e w' h=>⟨h.1,jP _ _ (h:=h.2)⟩))))
   refine wpQuiet_nil ?_;rintro _ ⟨y_,rfl⟩;obtain⟨ab,a6,aM⟩:∃z,World.more w25 y_=z/\ik w25 z:=⟨_,rfl,iR⟩;try rw[a6]
   have a8:=iy (a'.after aM);have R:=im (q:=q) aM;have a_:=ij an R;obtain⟨c0,c1,aT,c3,f2,l0⟩:=a8.fields;replace OL:=iy (OL.out.iv qe J (lp J) R);obtain⟨aX,ak,ao,aC,al,ai⟩:∃z,ab.setCell ⟨q,2,none⟩ (.int .i64 ((I:Int)+1))=z/\Hid (Rd B q _ c L en eA ec el z (I+1))/\ik (iz q w0) (iz q z)/\ik (iz q ab) (iz q z)/\n1<=z.heap.size:=⟨_,rfl,a8.move (j:=I+1) aQ,by rw[jJ];exact a_,by rw[jJ];exact iq _,by rw[jc];exact jW a1 aM.below.size⟩;replace OL:=iy (OL.out.iv qe J (lp J) al);go_wp2_with fail;try rw[ak]
   go_roundw
   case rel=>exact⟨I+1,m,(ys++[(iO.mk dn dt ⟨dA,dc,dl⟩)]),iy (wc ad),a7,aa,ao,aC,ai,OL⟩
   case measure=>(rw[je ao.out.fields.2.2.1,d1.out];have h1:=aw;omega)
  by_cases hj:I+1<L.length
  ·skip
   have b9:(I:Int)+1<(L.length:Int):=iu;have aR:¬((L.length:Int)<=(I:Int)+1):=iu;have bu:=decide_eq_false aR;obtain⟨b,pp,kd,tt,nn,hA,hl,hy,ht,hn,t0,t1,t2⟩:=a'.at_ (j:=I+1) hj;obtain⟨zk,ar⟩:=jt (ju 1 (L.drop (I+1)));have bt:(kd==1)=zk:=by rw[<- ar,oU hy.out];rfl
   rw[ar]at HX;subst hA;cases zk
   ·skip
    have aa:=iy (HX.trans (iG (by rfl)));go_wp2_with fail;refine iE kp kp ?_;repeat (go_big_quiet_step ((go_at_call 30;exact mR ((HY _ iR).mono fun e w' h=>⟨h.1,jP _ _ (h:=h.2)⟩))))
    refine wpQuiet_nil ?_;rintro _ ⟨y_,rfl⟩;obtain⟨ab,a6,aM⟩:∃z,World.more w25 y_=z/\ik w25 z:=⟨_,rfl,iR⟩;try rw[a6]
    have a8:=iy (a'.after aM);have R:=im (q:=q) aM;have a_:=ij an R;replace OL:=iy (OL.out.iv qe J (lp J) R);obtain⟨AF,cF,ae,DF⟩:=OL.row (P:=jG) qe (fun b hb=>lp hb) (fun y=>rfl) (by have:=a7.out;omega) (fun W b o y hy hj=>Cq hy hj);have b5:Value.slice A5 (ys.length+1) c5=.slice AF (ys.length+1) cF:=by (rw[ae,mo];rfl)
    have aq:=aa;go_wp2;exact jR (v:=.slice A5 (ys.length+1) c5) (by simp[results,results69,go_sem]) rfl (lN (x:=(ys++[(iO.mk dn dt ⟨dA,dc,dl⟩)]).map iO.er) aq (ij (im aw0) a_) ⟨AF,cF,(ys++[(iO.mk dn dt ⟨dA,dc,dl⟩)]),ae,rfl,by rw[aj];exact DF⟩ a8 rfl ad)
   have aa:=iy (HX.trans (iV (by simp)));go_wp2_with fail;refine iE kp kp ?_;repeat (go_big_quiet_step ((go_at_call 30;exact mR ((HY _ iR).mono fun e w' h=>⟨h.1,jP _ _ (h:=h.2)⟩))))
   refine wpQuiet_nil ?_;rintro _ ⟨y_,rfl⟩;obtain⟨ab,a6,aM⟩:∃z,World.more w25 y_=z/\ik w25 z:=⟨_,rfl,iR⟩;try rw[a6]
   have a8:=iy (a'.after aM);have R:=im (q:=q) aM;have a_:=ij an R;obtain⟨c0,c1,aT,c3,f2,l0⟩:=a8.fields;replace OL:=iy (OL.out.iv qe J (lp J) R);obtain⟨aX,ak,ao,aC,al,ai⟩:∃z,ab.setCell ⟨q,2,none⟩ (.int .i64 ((I:Int)+1))=z/\Hid (Rd B q _ c L en eA ec el z (I+1))/\ik (iz q w0) (iz q z)/\ik (iz q ab) (iz q z)/\n1<=z.heap.size:=⟨_,rfl,a8.move (j:=I+1) aQ,by rw[jJ];exact a_,by rw[jJ];exact iq _,by rw[jc];exact jW a1 aM.below.size⟩;replace OL:=iy (OL.out.iv qe J (lp J) al);go_wp2_with fail;try rw[ak]
   go_roundw
   case rel=>exact⟨I+1,m,(ys++[(iO.mk dn dt ⟨dA,dc,dl⟩)]),iy (wc ad),a7,aa,ao,aC,ai,OL⟩
   case measure=>(rw[je ao.out.fields.2.2.1,d1.out];have h1:=aw;omega)
  have b9:¬((I:Int)+1<(L.length:Int)):=iu;have aR:(L.length:Int)<=(I:Int)+1:=iu;have ar:ju 1 (L.drop (I+1))=false:=by rw[Bn iu];rfl
  rw[ar]at HX;have aa:=iy (HX.trans (iG (by rfl)));go_wp2_with fail;refine iE kp kp ?_;repeat (go_big_quiet_step ((go_at_call 30;exact mR ((HY _ iR).mono fun e w' h=>⟨h.1,jP _ _ (h:=h.2)⟩))))
  refine wpQuiet_nil ?_;rintro _ ⟨y_,rfl⟩;obtain⟨ab,a6,aM⟩:∃z,World.more w25 y_=z/\ik w25 z:=⟨_,rfl,iR⟩;try rw[a6]
  have a8:=iy (a'.after aM);have R:=im (q:=q) aM;have a_:=ij an R;replace OL:=iy (OL.out.iv qe J (lp J) R);obtain⟨AF,cF,ae,DF⟩:=OL.row (P:=jG) qe (fun b hb=>lp hb) (fun y=>rfl) (by have:=a7.out;omega) (fun W b o y hy hj=>Cq hy hj);have aq:=aa;go_wp2;exact jR (v:=.slice A5 (ys.length+1) c5) (by simp[results,results69,go_sem]) rfl (lN (x:=(ys++[(iO.mk dn dt ⟨dA,dc,dl⟩)]).map iO.er) aq (ij (im aw0) a_) ⟨AF,cF,(ys++[(iO.mk dn dt ⟨dA,dc,dl⟩)]),ae,rfl,by rw[aj];exact DF⟩ a8 rfl ad)
 obtain rfl:m=0:=by have:=af.out;omega
 have aF:Hid (X=none):=HX;obtain⟨a,er,rfl,he⟩:=hf;unfold oD;go_wp2;exact⟨rfl,kf aF (ij (im aw0) aU) (jz a er he)⟩
theorem CR (htag:∀u∈el,u.tags.l.length<=16) (hel:el.length<=1000) (h:Rd B q A c L en eA ec el w i):Calls prog 70 #[.pointer (some q)] w (pk B q A c L en eA ec el w i (oG el (L.drop i)) (VL 3 jG iO.er w.heap.size)):=by
 obtain⟨X,hX⟩:=jt (oG el (L.drop i));rw[hX];obtain⟨R,ab⟩:=jt (i);rw[ab]at hX h⊢;have j:=iy hX.symm;have a8:Hid (R<=R):=js _;have hq:=h.blk.lt;have ad:=h.base;obtain⟨w0,rfl⟩:∃v,v=w:=⟨_,rfl⟩;have aw0:ik w0 w0:=iq _;have R0:=iy h;have a0:ik (iz q w0) (iz q w0):=iq _;have U:q<w0.heap.size:=by omega
 have af:B.heap.size<=w0.heap.size:=by omega
 go_in;go_wp2_with fail;have j:Hid (X=if jq ⟨#[118,97,114]⟩ (L.drop R) then (mv el true 256 [] (L.drop R).tail).bind fun (l,r)=>(iF [⟨#[59]⟩] r).bind fun (_,r)=>some (l,r) else some ([],L.drop R)):=j;go_wp2_with fail;refine Dx ⟨#[118,97,114]⟩ R0 j a0 a8 ?_ ?_
 ·clear j;intro w1 R1 j _ a1 o
  go_wp2_with fail;have J:Hid (X=some ([],L.drop R)):=j;exact jR (v:=.slice none 0 0) (by simp[results,results70,go_sem]) rfl (lN (x:=[]) J (ij (im aw0) a1) ⟨none,0,[],rfl,rfl,ir.nil _⟩ R1 rfl o)
 clear j;intro w1 R1 j _ a1 o ag;rw[tail_drop]at j;go_wp2_with fail;refine td (Ac (M:=256) iI true htag hel R1) j a1 o ?_;clear j;intro w2 x2 v2 i2 aa R2 j a7 ai aj a2;obtain⟨A2,c2,l2,rfl,I,D2⟩:=aa;have I:=iy I;have D2:=iy D2;go_wp2_with fail;refine td (jH R2 [⟨#[59]⟩] iI) j a2 a7 ?_;clear j;intro w3 x3 v3 i3 a' R3 j a6 ah ae a3;subst a';go_wp2_with fail;have J:Hid (X=some (x2,L.drop i3)):=j;have a_:w0.heap.size<=w1.heap.size:=by have h1:=lZ a1;exact h1
 have D3:=(D2.sub ky (iS a_ w2)).below iM (kj (q:=q) U ae).below;exact jR (v:=.slice A2 l2.length c2) (by simp[results,results70,go_sem]) rfl (lN (x:=x2) J (ij (im aw0) a3) ⟨A2,c2,l2,rfl,I,D3⟩ R3 rfl a6)
end
end
end Go.Proofs.YtnigblndonocfaaGreatDoor
