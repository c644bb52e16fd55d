/- A part of the proof. -/
import Derived.Test.YtnigblndonocfaaGreatDoorSNd
import Derived.Defers
import Derived.Recover
set_option linter.unusedVariables false
set_option linter.unusedSimpArgs false
namespace Go.Proofs.YtnigblndonocfaaGreatDoor
set_option maxRecDepth 100000
set_option maxHeartbeats 6400000
open Go.Proofs.Tryz
open Go.RowKit Go.BigFrame
theorem Of (w:World):(Instr.typeAssert Value.nilIface 20 105 true).run prog w=.ok (.tuple #[.agg #[.int .i64 0,.int .i64 0,.int .i64 0],.bool false]) w:=by kernel_rfl
theorem N_ (v:Value) (w:World):(Instr.typeAssert (Value.iface 105 v) 20 105 true).run prog w=.ok (.tuple #[v,.bool true]) w:=by kernel_rfl
theorem Ik (p q a b c d e f g:Value):#[p,q]++(((((((Array.replicate 12 undef).setIfInBounds 3 a).setIfInBounds 4 b).setIfInBounds 2 c).setIfInBounds 5 d).setIfInBounds 6 e).setIfInBounds 0 f).setIfInBounds 1 g=#[p,q,f,g,c,a,b,d,e,undef,undef,undef,undef,undef]:=by kernel_rfl
theorem IS (p q:Addr) (w:World) :
  CallsD prog 38 #[.pointer (some p),.pointer (some q)] .returning w fun e u' w'=>e=.returned (.tuple #[])/\u'=.returning/\ik w w':=by
 refine callsD_of_wpS func38 rfl fun o I j=>?_
 apply wpS_seq;apply wpS_region;simp[wpOpsS,go_sem,recoverD,j,Of,N_,ntmps38,Exit.thenS];refine wpS_of_wp ?_;rw[Ik];go_wp2_with fail;exact⟨rfl,_,by cases o;simp_all,.tuple #[],by simp[results,results38,go_sem],rfl,rfl,iR⟩
theorem Lh (g1 g2:Nat) (nd q E:Int) (w0 w:World) (hw:ik w0 w) (h1:w0.heap.size<=g1) (h2:w0.heap.size<=g2) {v1 v2 v3:Value} (b1:iP w g1 35 #[v1,v2]) (b2:iP w g2 26 #[v3]) (hne:g1≠g2) (older:List PanicEntry) :
  CallsD prog 38 #[.pointer (some ⟨g1,0,none⟩),.pointer (some ⟨g2,0,none⟩)] (.panicking ({ v:=.iface 105 (.agg #[.int .i64 nd,.int .i64 q,.int .i64 E]),recovered:=false }::older)) w fun e u' w'=>e=.returned (.tuple #[])/\u'=.panicking ({ v:=.iface 105 (.agg #[.int .i64 nd,.int .i64 q,.int .i64 E]),recovered:=true }::older)/\ik w0 w'/\iP w' g1 35 #[.int .i64 nd,.int .i64 q]/\iP w' g2 26 #[.int .i64 E]:=by
 refine callsD_of_wpS func38 rfl fun c₀ cs hu=>?_
 apply wpS_seq;apply wpS_region;simp[wpOpsS,go_sem,recoverD,hu,Of,N_,ntmps38,Exit.thenS];refine wpS_of_wp ?_;rw[Ik];have e1:=iP.lt b1;have e2:=iP.lt b2;have I:=jC w 105 #[.int .i64 nd,.int .i64 q,.int .i64 E];obtain⟨W,U,aW,j,o⟩:∃W,w.alloc (.cells #[.int .i64 nd,.int .i64 q,.int .i64 E] 105)=W/\ik w0 W/\iP W g1 35 #[v1,v2]/\iP W g2 26 #[v3]:=⟨_,rfl,inferInstance,b1.alloc _,b2.alloc _⟩;rw[U]at I;rw[U];obtain⟨g,hg⟩:∃g,w.heap.size=g:=⟨_,rfl⟩;rw[hg]at I e1 e2⊢;have k0:W.cell? ⟨g,0,none⟩=some (.int .i64 nd):=by rw[I.cell];rfl
 have k1:W.cell? ⟨g,1,none⟩=some (.int .i64 q):=by rw[I.cell];rfl
 have k2:W.cell? ⟨g,2,none⟩=some (.int .i64 E):=by rw[I.cell];rfl
 have f1:=j.frozen 0;have p1:W.cell? ⟨g1,0,none⟩=some v1:=by rw[j.cell];rfl
 have p2:W.cell? ⟨g1,1,none⟩=some v2:=by rw[j.cell];rfl
 have p3:W.cell? ⟨g2,0,none⟩=some v3:=by rw[o.cell];rfl
 have f2:=j.frozen 1;have f3:=o.frozen 0;have l1:=j.is_le;have l2:=o.is_le;have l3:=I.is_le;have n1:uD w0 g1:=⟨h1⟩;have n2:uD w0 g2:=⟨h2⟩;have m1:F0 g g1:=⟨by omega⟩;have m2:F0 g g2:=⟨by omega⟩;have m3:F0 g2 g1:=⟨by omega⟩;have m4:F0 g1 g2:=⟨hne⟩;have R:=iB ((((j.jx 0 (.int .i64 nd)).jx 1 (.int .i64 q)).qU (p:=⟨g2,0,none⟩) hne (.int .i64 E)));have J:=iB ((((o.qU (p:=⟨g1,0,none⟩) (ls hne) (.int .i64 nd)).qU (p:=⟨g1,1,none⟩) (ls hne) (.int .i64 q))).jx 0 (.int .i64 E));go_wp2_with fail;go_region;exact⟨rfl,_,rfl,.tuple #[],by simp[results,results38,go_sem],rfl,rfl,iR,R,J⟩
def Im (en:List iW) (ns:List nh):Int:=jD (iX (decide ((en.length:Int)<=24)&&decide ((ns.length:Int)<=96)) 3) (iw oy en)
noncomputable def qy (en:List iW):List nh->Nat->Int×Int×Int
 |[],_=>(0,0,0)
 |n::l,i=>if mY en n=0 then qy en l (i+1) else ((i:Int),GJ en n,mY en n)
noncomputable def nv (en:List iW) (ns:List nh):Int×Int×Int:=if Im en ns=0 then qy en ns 0 else (-1,-1,Im en ns)
theorem DV (en:List iW):∀{l:List nh} {j:Nat} {x:nh} (k:Nat),l[j]?=some x->iw (mY en) (l.take j)=0->mY en x≠0->qy en l k=(((k+j:Nat):Int),GJ en x,mY en x)
 |[],j,x,k,h,_,_=>by simp at h
 |a::l,0,x,k,h,_,hx=>by
  simp at h;subst h;rw[qy,iV hx];rfl
 |a::l,j+1,x,k,h,h0,hx=>by
  rw[sD,iw]at h0;have ha:mY en a=0:=by
   by_cases h:mY en a=0
   ·exact h
   rw[lR h]at h0;exact absurd h0 h
  rw[kC ha]at h0;rw[qy,iG ha,DV en (k+1) (by simpa using h) h0 hx];congr 1;omega
theorem AV (en:List iW):∀(l:List nh) (k:Nat),iw (mY en) l=0->qy en l k=(0,0,0)
 |[],_,_=>rfl
 |a::l,k,h0=>by
  rw[iw]at h0;have ha:mY en a=0:=by
   by_cases h:mY en a=0
   ·exact h
   rw[lR h]at h0;exact absurd h0 h
  rw[kC ha]at h0;rw[qy,iG ha,AV en l (k+1) h0]
structure PF (w:World) (g2 g3:Nat) (V:Int×Int×Int) (nd q F:Int) (U:World):Prop where
 aft:ik w U
 b2:iP U g2 35 #[.int .i64 0,.int .i64 0]
 b3:iP U g3 26 #[.int .i64 0]
 v:V=(nd,q,F)
theorem wt {w:World} {g2 g3:Nat} {V:Int×Int×Int} {nd q F:Int} {U:World} {tm:Array Value} (h:PF w g2 g3 V nd q F U) (hn:w.heap.size<=g2/\w.heap.size<=g3/\g2≠g3) (t2:tm[2]?=some (.pointer (some ⟨g2,0,none⟩))) (t3:tm[3]?=some (.pointer (some ⟨g3,0,none⟩))) :
  bodyPostD prog f15 (fun e w'=>e=.returned (.tuple #[.agg #[.int .i64 V.1,.int .i64 V.2.1],.int .i64 V.2.2])/\ik w w') (Exit.panic [{ v:=.iface 105 (.agg #[.int .i64 nd,.int .i64 q,.int .i64 F]),recovered:=false }]) { tmps:=tm,defers:=[{ target:=Target.fn (Fn.func 38) #[.pointer (some ⟨g2,0,none⟩),.pointer (some ⟨g3,0,none⟩)],args:=#[] }] } U:=by
 refine leaves_cons (f:=38) (args:=#[.pointer (some ⟨g2,0,none⟩),.pointer (some ⟨g3,0,none⟩)]) (by simp) (by simp[go_sem]) ?_;refine (Lh g2 g3 nd q F w U h.aft hn.1 hn.2.1 h.b2 h.b3 hn.2.2 []).mono ?_;rintro e u' j ⟨rfl,rfl,a1,o,c2⟩;have R:j.cell? ⟨g2,0,none⟩=some (.int .i64 nd):=by rw[o.cell];rfl
 have J:j.cell? ⟨g2,1,none⟩=some (.int .i64 q):=by rw[o.cell];rfl
 have I:j.cell? ⟨g3,0,none⟩=some (.int .i64 F):=by rw[c2.cell];rfl
 have hv:=h.v;subst hv;simp[Leaves,settle,results,results15,go_sem,t2,t3,R,J,I,a1]
theorem N3 {w:World} {g2 g3:Nat} {V:Int×Int×Int} {nd q F:Int} {U:World} {tm:Array Value} (h:PF w g2 g3 V nd q F U) (hn:w.heap.size<=g2/\w.heap.size<=g3/\g2≠g3) (t2:tm[2]?=some (.pointer (some ⟨g2,0,none⟩))) (t3:tm[3]?=some (.pointer (some ⟨g3,0,none⟩))) (U2:World) (a2:ik w U2) (y1:U2.cell? ⟨g2,0,none⟩=some (.int .i64 V.1)) (y2:U2.cell? ⟨g2,1,none⟩=some (.int .i64 V.2.1)) (y3:U2.cell? ⟨g3,0,none⟩=some (.int .i64 V.2.2)) (l2:Le (g2+1) U2) (l3:Le (g3+1) U2) :
  bodyPostD prog f15 (fun e w'=>e=.returned (.tuple #[.agg #[.int .i64 V.1,.int .i64 V.2.1],.int .i64 V.2.2])/\ik w w') Exit.ret { tmps:=tm,defers:=[{ target:=Target.fn (Fn.func 38) #[.pointer (some ⟨g2,0,none⟩),.pointer (some ⟨g3,0,none⟩)],args:=#[] }] } U2:=by
 refine leaves_cons (f:=38) (args:=#[.pointer (some ⟨g2,0,none⟩),.pointer (some ⟨g3,0,none⟩)]) (by simp) (by simp[go_sem]) ?_;refine (IS ⟨g2,0,none⟩ ⟨g3,0,none⟩ _).mono ?_;rintro e I o ⟨rfl,rfl,j⟩;obtain⟨z,rfl⟩:=@jP _ _ j;simp[Leaves,settle,results,results15,go_sem,t2,t3,y1,y2,y3];exact ij a2 j
theorem BO {w0:World} {eA nA:Option Addr} {ec nc:Nat} {el:List iW} {nl:List nh} (hen:ir 2 sM w0 ⟨eA,ec,el⟩) (hnd:ir 8 (Gy True) w0 ⟨nA,nc,nl⟩) (w:World) (hw:ik w0 w) :
  Calls prog 15 #[.agg #[.slice eA el.length ec,.slice nA nl.length nc]] w fun e w'=>e=.returned (.tuple #[.agg #[.int .i64 (nv el nl).1,.int .i64 (nv el nl).2.1],.int .i64 (nv el nl).2.2])/\ik w w':=by
 have bE:∀(fn:Fn) (first cap:Array Value) (w:World),(Instr.makeFunc fn first cap).run prog w=.ok (.func fn first cap) w:=fun _ _ _ _=>rfl
 obtain⟨V,hV⟩:=jt (nv el nl);rw[hV];obtain⟨R,hR⟩:=jt (Im el nl);have aE:Hid (R≠0->V=(-1,-1,R)):=fun h=>by rw[<- hV,nv,hR,iV h]
 have aq:Hid (R=0->V=qy el nl 0):=fun h=>by rw[<- hV,nv,hR,iG h]
 have I:Hid (R=jD (iX (decide ((el.length:Int)<=24)&&decide ((nl.length:Int)<=96)) 3) (jD (iw oy el) 0)):=by
  show _=_
  rw[<- hR,kE];rfl
 have aU:=hen.len;have aT:=hnd.len;simp only[]at aU aT;have aS:=iy hen;have ba:=iy hnd;obtain⟨o,aI⟩:=jt (w.heap.size);obtain⟨J,bG,a4,q1,q2,q3,q4⟩:∃W,(((w.alloc (.cells #[.slice eA el.length ec,.slice nA nl.length nc] 25)).alloc (.cells #[.int .i64 0,.int .i64 0] 35)).alloc (.cells #[.int .i64 0] 26)).alloc (.cells #[.slice eA el.length ec,.int .i64 (-1),.int .i64 (-1)] 109)=W/\ik w W/\iP W o 25 #[.slice eA el.length ec,.slice nA nl.length nc]/\iP W (o+1) 35 #[.int .i64 0,.int .i64 0]/\iP W (o+1+1) 26 #[.int .i64 0]/\pK W (o+1+1+1) eA el.length ec (-1) (-1):=by
  have b0:=jC w 25 #[.slice eA el.length ec,.slice nA nl.length nc];obtain⟨w1,aA⟩:=jt (w.alloc (.cells #[.slice eA el.length ec,.slice nA nl.length nc] 25));have s1:w1.heap.size=o+1:=by rw[<- aA,iH,aI]
  have a1:ik w w1:=by rw[<- aA];exact iR
  rw[aA,aI]at b0;rw[aA];have b1:=jC w1 35 #[.int .i64 0,.int .i64 0];obtain⟨w2,az⟩:=jt (w1.alloc (.cells #[.int .i64 0,.int .i64 0] 35));have s2:w2.heap.size=o+1+1:=by rw[<- az,iH,s1]
  have a2:ik w1 w2:=by rw[<- az];exact iR
  rw[az,s1]at b1;rw[az];have b2:=jC w2 26 #[.int .i64 0];obtain⟨w3,ay⟩:=jt (w2.alloc (.cells #[.int .i64 0] 26));have s3:w3.heap.size=o+1+1+1:=by rw[<- ay,iH,s2]
  have a3:ik w2 w3:=by rw[<- ay];exact iR
  rw[ay,s2]at b2;rw[ay];have b3:=jC w3 109 #[.slice eA el.length ec,.int .i64 (-1),.int .i64 (-1)];rw[s3]at b3;exact⟨_,rfl,ij a1 (ij a2 (ij a3 iR)),b0.after (k:=ij a2 (ij a3 iR)),b1.after (k:=ij a3 iR),b2.after (k:=iR),b3⟩
 have aK:=ij hw a4;have bF:=lI aI;have aw:Hid (∀U,xx (o+1+1+1) J U->∀nd q F,V=(nd,q,F)->PF w (o+1) (o+1+1) V nd q F U):=fun U hU nd q F h=>⟨hU.after a4 iu,hU.blk q2 iu,hU.blk q3 iu,h⟩
 have aO:Hid (∀U,xx (o+1+1+1) J U->U.cell? ⟨o,0,none⟩=some (.slice eA el.length ec)/\U.cell? ⟨o,1,none⟩=some (.slice nA nl.length nc)/\Le (o+1) U):=fun U hU=>by
  have y0:=hU.blk q1 iu;exact⟨by rw[y0.cell];rfl,by rw[y0.cell];rfl,y0.is_le⟩
 have HK:Hid (∀U,ik J U->U.cell? ⟨o,0,none⟩=some (.slice eA el.length ec)/\U.cell? ⟨o,1,none⟩=some (.slice nA nl.length nc)/\Le (o+1) U):=fun U hU=>aO U (ni hU)
 have HM:Hid (∀b e,e≠0->∀U,ik J U->Calls prog 39 #[.pointer (some ⟨o+1+1+1,0,none⟩),.bool b,.int .i64 e] U fun e' w'=>PE U (-1) (-1) (iX b e) e' w'):=fun b e he U hU=>rC (q4.here U (k:=hU)) b e he
 have HU:Hid (∀(s:ByteArray) (A:Option Addr) (c:Nat) (l:List ByteArray),s.size<=140737488355328->ir 1 sR J ⟨A,c,l⟩->∀U,ik J U->Calls prog 40 #[.pointer (some ⟨o+1+1+1,0,none⟩),.agg #[.string s,.slice A l.length c]] U fun e w'=>PE U (-1) (-1) (oy ⟨s,A,c,l⟩) e w'):=fun s A c l hs hr U hU=>K_ q4 s hs ⟨A,c,l⟩ hr U hU
 have bu:=iy q4;obtain⟨k0,k1,kl⟩:=HK J (iq _);have n2:uD w (o+1):=⟨iu⟩;have n3:uD w (o+1+1):=⟨iu⟩;have aZ:=iq J;go_enter_defers func15,ntmps15;by_cases aJ:(el.length:Int)<=24;rotate_left
 ·replace I:Hid (R=jD (iX false 3) (jD (iw oy el) 0)):=by show _=_;rw[I.out,decide_eq_false aJ];simp only[qu,qT]
  have bf:¬el.length<=24:=iu;go_wp2_with fail;refine (HM _ 3 iI J (ij (iq J) (iq J))).mono ?_;rintro e w2 hp;replace hp:=hp.to (F:=iX false 3) (by first | rfl | exact nQ (fun b=>iX b 3) (decide_eq_false iu));by_cases hE:iX false 3=0;rotate_left
  ·obtain⟨F,hF,HP⟩:∃F,e=uw (-1) (-1) F/\Hid (PF w (o+1) (o+1+1) V (-1) (-1) F w2):=by
    obtain⟨rfl,br⟩:=hp.Oq hE;have HX:=iy (I.trans (lR hE));have HE:Hid (R=iX false 3):=HX;exact⟨_,rfl,iy (aw _ (ni (ij (iq J) br)) _ _ _ (by rw[aE.out (by rw[HE.out];exact hE),HE.out]))⟩
   subst hF;unfold uw;go_wp2_with fail;exact wt HP ⟨iu,iu,iu⟩ rfl rfl
  exact absurd hE iI
 have bf:el.length<=24:=iu;by_cases aV:(nl.length:Int)<=96;rotate_left
 ·replace I:Hid (R=jD (iX false 3) (jD (iw oy el) 0)):=by show _=_;rw[I.out,lp aJ,decide_eq_false aV];simp only[qu,qT]
  have be:¬nl.length<=96:=iu;go_wp2_with fail;refine (HM _ 3 iI J (ij (iq J) (iq J))).mono ?_;rintro e w3 hp;replace hp:=hp.to (F:=iX false 3) (by first | rfl | exact nQ (fun b=>iX b 3) (decide_eq_false iu));by_cases hE:iX false 3=0;rotate_left
  ·obtain⟨F,hF,HP⟩:∃F,e=uw (-1) (-1) F/\Hid (PF w (o+1) (o+1+1) V (-1) (-1) F w3):=by
    obtain⟨rfl,bq⟩:=hp.Oq hE;have HX:=iy (I.trans (lR hE));have HE:Hid (R=iX false 3):=HX;exact⟨_,rfl,iy (aw _ (ni (ij (iq J) bq)) _ _ _ (by rw[aE.out (by rw[HE.out];exact hE),HE.out]))⟩
   subst hF;unfold uw;go_wp2_with fail;exact wt HP ⟨iu,iu,iu⟩ rfl rfl
  exact absurd hE iI
 have be:nl.length<=96:=iu;replace I:Hid (R=jD (iX true 3) (jD (iw oy el) 0)):=by show _=_;rw[I.out,lp aJ,lp aV];rfl
 go_wp2_with fail;refine (HM _ 3 iI J (ij (iq J) (iq J))).mono ?_;rintro e w4 hp;replace hp:=hp.to (F:=iX true 3) (by first | rfl | exact nQ (fun b=>iX b 3) (lp iu));by_cases hE:iX true 3=0;rotate_left
 ·obtain⟨F,hF,HP⟩:∃F,e=uw (-1) (-1) F/\Hid (PF w (o+1) (o+1+1) V (-1) (-1) F w4):=by
   obtain⟨rfl,aD⟩:=hp.Oq hE;have HX:=iy (I.trans (lR hE));have HE:Hid (R=iX true 3):=HX;exact⟨_,rfl,iy (aw _ (ni (ij (iq J) aD)) _ _ _ (by rw[aE.out (by rw[HE.out];exact hE),HE.out]))⟩
  subst hF;unfold uw;go_wp2_with fail;exact wt HP ⟨iu,iu,iu⟩ rfl rfl
 replace I:=iy (I.trans (kC hE));obtain⟨rfl,aD⟩:=hp.Rv hE;have d4:=ij (iq J) aD;have b4:=ij (iq J) aD;obtain⟨k0,k1,kl⟩:=HK w4 (b4);go_wp2_with fail;go_loopw [30] (fun i wr=>∃j:Nat,j<=el.length/\i=.int .i64 (j:Nat)/\Hid (iw oy (el.take j)=0)/\ik J wr) (fun i _=>el.length-(intOf i).toNat)
 case atStart=>exact⟨0,iu,rfl,iy (by simp[iw]),b4⟩
 case round=>
 obtain⟨j,hj,rfl,aQ,ax⟩:=hrel;have ar:=ij aZ ax;obtain⟨rj,bc⟩:=jt (wr);rw[bc]at ax ar⊢;obtain⟨k0,k1,kl⟩:=HK rj (ax);by_cases aG:j<el.length
 ·have bg:(j:Int)<(el.length:Int):=iu
  obtain⟨bj,pj,yj,rfl,bz,aL,aY⟩:=((aS.enums J (k:=aK)).enums rj (k:=ij (iq J) ar)).part (i:=j) aG;obtain⟨nm,tA,tc,tl⟩:=yj;obtain⟨_,_,b8⟩:=(aS.enums J (k:=aK)).elem (i:=j) aL;have b9:=iy b8;obtain⟨z0,z1⟩:rj.cell? ⟨bj,pj+j*2,none⟩=some (.string nm)/\rj.cell? ⟨bj,pj+j*2+1,none⟩=some (.slice tA tl.length tc):=⟨aY.c0,aY.c1⟩;have aF:Hid ((oy ⟨nm,tA,tc,tl⟩)≠0->R=(oy ⟨nm,tA,tc,tl⟩)):=iy fun h=>by
   have h1:=kN oy aL aQ h;have h2:=I.trans ((lR (by rw[h1];exact h)).trans h1);exact h2
  have av:Hid ((oy ⟨nm,tA,tc,tl⟩)=jD (oy ⟨nm,tA,tc,tl⟩) 0):=iB (kE _).symm;have b':Hid ((oy ⟨nm,tA,tc,tl⟩)=0->iw oy (el.take (j+1))=0):=iy fun h=>(kt oy aL aQ).trans h
  obtain⟨X1,aX⟩:∃X,X=(oy ⟨nm,tA,tc,tl⟩):=⟨_,rfl⟩;replace av:=iy (aX.trans av);rw[<- aX]at aF b';obtain⟨g5,bm⟩:=jt (rj.heap.size);obtain⟨W5,bp,aP,b7⟩:∃W,rj.alloc (.cells #[.string nm,.slice tA tl.length tc] 57)=W/\Hid (∀U:World,ik W U->U.cell? ⟨g5,0,none⟩=some (.string nm)/\U.cell? ⟨g5,1,none⟩=some (.slice tA tl.length tc)/\Le (g5+1) U/\U.cell? ⟨o,0,none⟩=some (.slice (some ⟨bj,pj,none⟩) el.length ec)/\U.cell? ⟨o,1,none⟩=some (.slice nA nl.length nc)/\Le (o+1) U)/\ik rj W:=by
   refine⟨_,rfl,fun U hU=>?_,inferInstance⟩;have y0:=(jC rj 57 #[.string nm,.slice tA tl.length tc]).after (w':=U);rw[bm]at y0;have q0:=ij (iq J) (ij ar (ij iR hU));have q1:=ij (ax) (ij iR hU);exact⟨by rw[y0.cell];rfl,by rw[y0.cell];rfl,y0.is_le,(HK U q0).1,(HK U q0).2.1,(HK U q0).2.2⟩
  have d5:=ij ar b7;obtain⟨f0,f1,bb,bD,bC,bB⟩:=aP W5 (iq _);go_wp2_with fail;obtain⟨_,_,_,k0,k1,kl⟩:=aP W5 (iq _);refine (HU nm tA tc tl b9.nm b9.tg W5 (ij (iq J) d5)).mono ?_;rintro e w6 hp;by_cases hE:oy ⟨nm,tA,tc,tl⟩=0;rotate_left
  ·obtain⟨F,hF,HP⟩:∃F,e=uw (-1) (-1) F/\Hid (PF w (o+1) (o+1+1) V (-1) (-1) F w6):=by
    obtain⟨rfl,aC⟩:=hp.Oq hE;have HX:=iy (av.trans (lR hE));have HE:=iy ((aF (by rw[HX.out];exact hE)).trans HX);exact⟨_,rfl,iy (aw _ (ni (ij d5 aC)) _ _ _ (by rw[aE.out (by rw[HE.out];exact hE),HE.out]))⟩
   subst hF;unfold uw;go_wp2_with fail;exact wt HP ⟨iu,iu,iu⟩ rfl rfl
  replace av:=iy (av.trans (kC hE));obtain⟨rfl,aC⟩:=hp.Rv hE;have d6:=ij d5 aC;have b6:=ij (iq W5) aC;obtain⟨f0,f1,bb,k0,k1,kl⟩:=aP w6 (b6);go_wp2_with fail;go_roundw
  case rel=>exact⟨j+1,iu,by go_num,iy (b' av),ij (ax) (ij b7 (b6))⟩
  case measure=>simp only[intOf];omega
 replace I:=iy (I.trans (kC (lh oy aG aQ)));replace aq:=iy (aq I);go_wp2_with fail;go_loopw [41] (fun x wr=>∃i:Nat,i<=nl.length/\x=.int .i64 (i:Nat)/\Hid (iw (mY el) (nl.take i)=0)/\Hid (xx (o+1+1+1) J wr/\∃n q,pK wr (o+1+1+1) eA el.length ec n q)) (fun x _=>nl.length-(intOf x).toNat)
 case atStart=>exact⟨0,iu,rfl,iy (by simp[iw]),iy ⟨ni ar,_,_,bu.here rj (k:=ar)⟩⟩
 case round=>
 obtain⟨i,hi,rfl,aR,HB⟩:=hrel;obtain⟨ri,bd⟩:=jt (wr);rw[bd]at HB⊢;obtain⟨k0,k1,kl⟩:=aO ri HB.1;obtain⟨n',q',bk⟩:=HB.2;have b5:=HB.1.after aK (by have:=hw.below.size;omega);by_cases aH:i<nl.length
 ·have bh:(i:Int)<(nl.length:Int):=iu
  obtain⟨bi,pi,yi,rfl,bA,aM,a6⟩:=(ba.Sr ri (k:=b5)).part (i:=i) aH;obtain⟨nm,⟨ad,aa,ab⟩,⟨a8,a7,ou⟩,⟨a',a_,lo⟩,⟨af,ae,eq⟩,⟨ak,aj,au⟩,⟨ao,al,an⟩,⟨ai,ag,ah⟩⟩:=yi;obtain⟨z0,z1,z2,z3,z4,z5,z6,z7⟩:ri.cell? ⟨bi,pi+i*8,none⟩=some (.string nm)/\ri.cell? ⟨bi,pi+i*8+1,none⟩=some (.slice ad ab.length aa)/\ri.cell? ⟨bi,pi+i*8+2,none⟩=some (.slice a8 ou.length a7)/\ri.cell? ⟨bi,pi+i*8+3,none⟩=some (.slice a' lo.length a_)/\ri.cell? ⟨bi,pi+i*8+4,none⟩=some (.slice af eq.length ae)/\ri.cell? ⟨bi,pi+i*8+5,none⟩=some (.slice ak au.length aj)/\ri.cell? ⟨bi,pi+i*8+6,none⟩=some (.slice ao an.length al)/\ri.cell? ⟨bi,pi+i*8+7,none⟩=some (.slice ai ah.length ag):=⟨a6.c0,a6.c1,a6.c2,a6.c3,a6.c4,a6.c5,a6.c6,a6.c7⟩;obtain⟨_,_,b_⟩:=ba.elem (i:=i) aM;have bt:=iy b_;obtain⟨X1,aB⟩:=jt (mY el ⟨nm,⟨ad,aa,ab⟩,⟨a8,a7,ou⟩,⟨a',a_,lo⟩,⟨af,ae,eq⟩,⟨ak,aj,au⟩,⟨ao,al,an⟩,⟨ai,ag,ah⟩⟩);obtain⟨Xq,aW⟩:=jt (GJ el ⟨nm,⟨ad,aa,ab⟩,⟨a8,a7,ou⟩,⟨a',a_,lo⟩,⟨af,ae,eq⟩,⟨ak,aj,au⟩,⟨ao,al,an⟩,⟨ai,ag,ah⟩⟩);have aF:Hid (X1≠0->V=((i:Int),Xq,X1)):=iy fun h=>by
   have h1:=DV el 0 aM aR (by rw[aB];exact h);rw[t_,aB,aW]at h1;exact aq.trans h1
  have aN:Hid (X1=0->iw (mY el) (nl.take (i+1))=0):=iy fun h=>(kt (mY el) aM aR).trans (aB.trans h)
  obtain⟨gn,bl⟩:=jt (ri.heap.size);obtain⟨W5,bp,a5,bn,bs⟩:∃W,ri.alloc (.cells #[.string nm,.slice ad ab.length aa,.slice a8 ou.length a7,.slice a' lo.length a_,.slice af eq.length ae,.slice ak au.length aj,.slice ao an.length al,.slice ai ah.length ag] 65)=W/\ik ri W/\iP W gn 65 #[.string nm,.slice ad ab.length aa,.slice a8 ou.length a7,.slice a' lo.length a_,.slice af eq.length ae,.slice ak au.length aj,.slice ao an.length al,.slice ai ah.length ag]/\pK W (o+1+1+1) eA el.length ec n' q':=⟨_,rfl,iR,by rw[<- bl];exact jC _ _ _,pK.here bk _⟩;have bo:w0.heap.size<=o+1+1+1:=by have:=hw.below.size;omega
  have HN:Hid (Calls prog 41 #[.pointer (some ⟨o+1+1+1,0,none⟩),.int .i64 (i:Nat),.agg #[.string nm,.slice ad ab.length aa,.slice a8 ou.length a7,.slice a' lo.length a_,.slice af eq.length ae,.slice ak au.length aj,.slice ao an.length al,.slice ai ah.length ag]] W5 fun e w'=>ND W5 (o+1+1+1) eA el.length ec (i:Nat) X1 Xq e w'):=by
   have h:=LS (i:=(i:Nat)) aS bt W5 (ij b5 a5) bo bs;rw[aB,aW]at h;exact h
  have B5:=HB.1.trans (ni a5);have v0:W5.cell? ⟨gn,0,none⟩=some (.string nm):=by rw[bn.cell];rfl
  have v1:W5.cell? ⟨gn,1,none⟩=some (.slice ad ab.length aa):=by rw[bn.cell];rfl
  have v2:W5.cell? ⟨gn,2,none⟩=some (.slice a8 ou.length a7):=by rw[bn.cell];rfl
  have v3:W5.cell? ⟨gn,3,none⟩=some (.slice a' lo.length a_):=by rw[bn.cell];rfl
  have v4:W5.cell? ⟨gn,4,none⟩=some (.slice af eq.length ae):=by rw[bn.cell];rfl
  have v5:W5.cell? ⟨gn,5,none⟩=some (.slice ak au.length aj):=by rw[bn.cell];rfl
  have v6:W5.cell? ⟨gn,6,none⟩=some (.slice ao an.length al):=by rw[bn.cell];rfl
  have v7:W5.cell? ⟨gn,7,none⟩=some (.slice ai ah.length ag):=by rw[bn.cell];rfl
  have e6:=bn.is_le;go_wp2_with fail;refine HN.mono ?_;rintro e w6 ⟨B6,h6⟩;by_cases hE:X1=0;rotate_left
  ·obtain⟨F,hF,HP⟩:∃F,e=uw (i:Nat) Xq F/\Hid (PF w (o+1) (o+1+1) V (i:Nat) Xq F w6):=by
    rcases h6 with⟨h,_⟩ | ⟨h,hh⟩
    ·exact absurd h hE
    exact⟨_,hh,aw _ (B5.trans B6) _ _ _ (aF hE)⟩
   subst hF;unfold uw;go_wp2_with fail;exact wt HP ⟨iu,iu,iu⟩ rfl rfl
  obtain⟨rfl,n6,q6,l6⟩:e=.returned (.tuple #[])/\∃n q,pK w6 (o+1+1+1) eA el.length ec n q:=by
   rcases h6 with⟨_,hh,q',hl⟩ | ⟨h,_⟩
   ·exact⟨hh,_,q',hl⟩
   exact absurd hE h
  replace aN:=iy (aN hE);obtain⟨k0,k1,kl⟩:=aO w6 (B5.trans B6);have bx:=iy (B5.trans B6);have bw:=iy l6;go_wp2_with fail;go_roundw
  case rel=>exact⟨i+1,iu,by go_num,aN,iy ⟨bx,_,_,bw⟩⟩
  case measure=>simp only[intOf];omega
 have hz:=lh (mY el) aH aR;replace aq:=iy (aq.trans (AV el nl 0 hz));have HP:=iy (aw _ HB.1 0 0 0 aq);have y1:=HP.b2.cell 0;have y2:=HP.b2.cell 1;have y3:=HP.b3.cell 0;have f1:=HP.b2.frozen 0;have f2:=HP.b2.frozen 1;have f3:=HP.b3.frozen 0;have l2:=HP.b2.is_le;have l3:=HP.b3.is_le;replace y1:ri.cell? ⟨o+1,0,none⟩=some (.int .i64 0):=y1;replace y2:ri.cell? ⟨o+1,1,none⟩=some (.int .i64 0):=y2;replace y3:ri.cell? ⟨o+1+1,0,none⟩=some (.int .i64 0):=y3;go_wp2_with fail;have hv:=aq.out;have bH:ik w ri:=HP.aft;have e2:=((HP.b2.jx 0 (.int .i64 0)).jx 1 (.int .i64 0)).qU (p:=⟨o+1+1,0,none⟩) (by show o+1≠o+1+1;omega) (.int .i64 0);have e3:=((HP.b3.qU (p:=⟨o+1,0,none⟩) (by show o+1+1≠o+1;omega) (.int .i64 0)).qU (p:=⟨o+1,1,none⟩) (by show o+1+1≠o+1;omega) (.int .i64 0)).jx 0 (.int .i64 0);exact N3 HP ⟨by omega,by omega,by omega⟩ rfl rfl _ inferInstance (by rw[hv];exact e2.cell 0) (by rw[hv];exact e2.cell 1) (by rw[hv];exact e3.cell 0) e2.is_le e3.is_le
section
def Jj:List Pc:=[.sp 32,mf [124],.sp 32]
def vY (l:List ByteArray):List Pc:=mq Jj (l.map fun s=>[rM s])
def sF (u:iW):List Pc:=rL 0 (mB [116,121,112,101]::.sp 32::rM u.name::.sp 32::mf [61]::.sp 32::(vY u.tags.l++[mf [59]]))
def qK (el:List iW) (nl:List nh):List Pc:=el.flatMap sF++nl.flatMap (qo el)
theorem C0 (l:List ByteArray):Lib.join (l.map (·.data.toList)) (iY Jj)=iY (vY l):=by
 unfold vY;rw[wV,xZ];congr 1;exact IL fun a _=>by show _=iY [rM a];rw[lQ,ja,oV]
theorem Gs {l:List ByteArray} (h:iw jA l=0) (h4:l.length<=1000):(iY (vY l)).length<=43000:=by
 have J:(iY (vY l)).length<=(l.map fun s=>[rM s]).length*(40+3):=za (by decide) fun x j=>by
  obtain⟨o,I,rfl⟩:=yQ.1 j;have:=jM (nS (jd h o I));rw[lQ,ja,oV,jr];omega
 rw[pE]at J;omega
theorem qm {u:iW} (h:oy u=0):kT u.name=true/\0<u.tags.l.length/\u.tags.l.length<=16/\iw jA u.tags.l=0:=by
 unfold oy at h;obtain⟨J,h⟩:=jI h;obtain⟨o,h⟩:=jI h;obtain⟨j,I⟩:=jI h;have o:=nJ iI o;have j:=nJ iI j;simp only[decide_eq_true_eq]at o j;exact⟨nS J,iu,iu,I⟩
theorem CH {el:List iW}:∀{l:List nh} {k:Nat},(qy el l k).2.2=0->∀n∈l,mY el n=0
 |[],k,_,n,h=>by simp at h
 |a::l,k,h0,n,h=>by
  rw[qy]at h0;by_cases ha:mY el a=0
  ·rw[iG ha]at h0
   rcases uW.1 h with rfl | h
   ·exact ha
   exact CH h0 n h
  rw[iV ha]at h0;exact absurd h0 ha
theorem uX {el:List iW} {nl:List nh} (h:(nv el nl).2.2=0):el.length<=24/\nl.length<=96/\(∀u∈el,oy u=0)/\∀n∈nl,mY el n=0:=by
 unfold nv at h;by_cases hp:Im el nl=0
 ·rw[iG hp]at h
  unfold Im at hp;obtain⟨j,o⟩:=jI hp;have j:=nJ iI j;simp only[mT,decide_eq_true_eq]at j;exact⟨iu,iu,jd o,CH h⟩
 rw[iV hp]at h;exact absurd h hp
section
variable {B:World} {g:Nat} {eA:Option Addr} {ec mb n:Nat}
theorem JF (w:World) (l:List UInt8) (h:Ln B g eA n ec mb w l) :
  Calls prog 20 #[.pointer (some ⟨g,2,none⟩)] w fun e w'=>e=.returned (.string (lG l))/\ik B w':=by
 obtain⟨p,A,c,hp,hb,R,hz⟩:=h.st;have U:=h.aft;have ad:=h.hg;by_cases h0:l=[]
 ·obtain⟨rfl,rfl⟩:=hz h0
  subst h0;have c1:w.drew.cell? ⟨g,3,none⟩=some (.slice none 0 0):=hb.drew.cell 3;have aa:=Lib.run_unsafeSliceData_nil (P:=prog) w.drew #[50] 122 0 0;have a':=Lib.run_unsafeString_none (P:=prog) w.drew 122 3 9 none;go_in;go_wp2_with fail;go_region;all_goals (go_wp2_with fail;go_ret;exact⟨rfl,ij U inferInstance⟩)
 have a6:l.length≠0:=by simpa using h0
 obtain⟨I,J,o,hv,af,hg,ab,a8,ae,a1⟩:∃I J o,Value.slice A l.length c=.slice (some ⟨I,0,none⟩) l.length J/\g+1<=I/\w.heap[I]?=some (.cells o 5 (0,0))/\l.length<=J/\J<=maxLen/\o.size=J*1/\o.toList.take (l.length*1)=Lib.byteCells l:=by
  rcases R.2 with⟨_,hz⟩ | ⟨I,J,o,hv,r⟩
  ·exact absurd hz a6
  exact⟨I,J,o,hv,r⟩
 injection hv with hA _ hc
 subst hA;subst hc;have c1:w.drew.cell? ⟨g,3,none⟩=some (.slice (some ⟨I,0,none⟩) l.length c):=hb.drew.cell 3;have aa:(Builtin.unsafeSliceData_ #[50] 122 #[.slice (some ⟨I,0,none⟩) l.length c]).run prog w.drew=.ok (.pointer (some ⟨I,0,none⟩)) w.drew:=
  Lib.run_unsafeSliceData_row _ _ _ _ _ _ (by omega)
 have a':(Builtin.unsafeString_ #[122,3] 9 #[.pointer (some ⟨I,0,none⟩),.int .i64 l.length]).run prog w.drew=.ok (.string ⟨l.toArray⟩) (w.drew.freeze ⟨I,0,none⟩ l.length):=by
  refine Lib.run_unsafeString_row w.drew 122 3 9 5 underlying122 (by kernel_rfl) I o.size (by have a7:w.drew.heap[I]?=some (.cells o 5 (0,0)):=hg;simp[World.shape?,a7]) l h0 (by omega) (by unfold maxLen at a8;omega) ?_;intro j x hx;have:=R.cells (g:=I) rfl j (.int .u8 x.toNat) (by simp[Lib.byteCells,hx]);exact this
 have a_:=U.below;go_in;go_wp2_with fail;go_region;all_goals (go_wp2_with fail;go_ret;exact⟨rfl,⟨Lib.below_freeze (Below.drew a_) (p:=⟨I,0,none⟩) (by show B.heap.size<=I;omega) _⟩⟩)
theorem Iv {w0:World} {nA:Option Addr} {nc:Nat} {el:List iW} {nl:List nh} (hen:ir 2 sM w0 ⟨eA,ec,el⟩) (hnd:ir 8 (Gy True) w0 ⟨nA,nc,nl⟩)
  (htab:Lib.TabIs prog w0 "internal/strconv.uint64pow10" .u64 Lib.pow10Tab) (hE:(nv el nl).2.2=0) (hfit:(iY (qK el nl)).length<=140737488355328) (w:World) (hw:ik w0 w) :
  Calls prog 6 #[.agg #[.slice eA el.length ec,.slice nA nl.length nc]] w fun e w'=>e=.returned (.tuple #[.string (lG (iY (qK el nl))),.int .i64 0])/\ik w w':=by
 have hsw:ID w0 eA ec el:=⟨hen,htab⟩;have hl1:=hen.len;have hl2:=hnd.len;simp only[]at hl1 hl2;obtain⟨-,-,q1,q2⟩:=uX hE;have hTg:mL el:=fun u hu t ht=>(jM (nS (jd (qm (q1 u hu)).2.2.2 t ht))).2
 have hNm:pB el:=fun u hu=>(jM (qm (q1 u hu)).1).2
 obtain⟨v1,v2,hV⟩:∃v1 v2,nv el nl=(v1,v2,0):=⟨(nv el nl).1,(nv el nl).2.1,by rw[<- hE]⟩;have HCk:=iy (fun U (hU:ik w U)=>BO hen hnd U (ij hw hU));rw[hV]at HCk;simp only[]at HCk;have hF:iY (qK el nl)=iY (el.flatMap sF)++iY (nl.flatMap (qo el)):=by unfold qK;rw[iC]
 obtain⟨TP,hTP⟩:=jt (iY (qK el nl));rw[hTP]at hfit hF⊢;have HF:=iy hF;have HL:=iy hfit;have HWr:=iB (fun U=>Dw eA el.length ec U);unfold qE at HWr;have HSW:=iB hsw;have HEN:=iB hen;have HND:=iB hnd;clear hTP hfit hF hV hE hsw hen hnd htab;go_in;go_wp2_with fail;refine (HCk _ inferInstance).mono ?_;rintro e w1 ⟨rfl,a1⟩;have B1:iP w1 w.heap.size 25 #[.slice eA el.length ec,.slice nA nl.length nc]:=(jC w _ _).after (k:=a1);have x0:=B1.cell 0;have lb:Le (w.heap.size+1) w1:=⟨B1.lt⟩;simp only[List.getElem?_toArray,List.getElem?_cons_zero]at x0;go_wp2_with fail;refine (HWr _).mono ?_;rintro e B ⟨mb,rfl,hsy,hmb,aB⟩;have aB1:ik w1 B:=ij inferInstance aB;have aB0:ik w B:=ij (ij inferInstance a1) aB1;have HSy:=iy hsy;have hBB:iP B w.heap.size 25 #[.slice eA el.length ec,.slice nA nl.length nc]:=B1.after (k:=aB1);have HBB:=iB hBB;have x0:B.cell? ⟨w.heap.size,0,none⟩=some (.slice eA el.length ec):=hBB.cell 0;have lb:Le (w.heap.size+1) B:=⟨hBB.lt⟩;have HB:Hid (WB B eA ec el mb):=iB ⟨HSW.here _ (ij hw aB0),hsy,hTg,hNm⟩;clear B1 hBB hsy aB;go_wp2_with fail;have HN0:Hid (Ln B B.heap.size eA el.length ec mb (B.alloc (.cells #[.slice eA el.length ec,.map (some mb),.pointer none,.slice none 0 0] 54)) []):=iB ⟨inferInstance,js _,none,none,0,.inl rfl,jC _ _ _,FL _ _ _ _,fun _=>⟨rfl,rfl⟩⟩;go_loopw [27] (fun i wr=>∃j:Nat,j<=el.length/\i=.int .i64 j/\Hid (Ln B B.heap.size eA el.length ec mb wr (iY ((el.take j).flatMap sF)))) (fun i _=>el.length-(intOf i).toNat)
 case atStart=>exact⟨0,by omega,rfl,HN0⟩
 case round=>
 obtain⟨j,hj,rfl,HN⟩:=hrel;clear x0 lb;have aBr:=HN.aft;have x1:=(HBB.after (k:=aBr)).cell 1;have lb:Le (w.heap.size+1) wr:=⟨(HBB.after (k:=aBr)).lt⟩;have lg:Le (B.heap.size+1) wr:=⟨HN.lt⟩;by_cases hlt:j<el.length
 ·obtain⟨b,p,u,hA0,hleb,HY,hP⟩:=(HEN.enums wr (k:=ij hw (ij aB0 aBr))).part (i:=j) hlt
  simp only[]at hA0;subst hA0;have hlI:(j:Int)<(el.length:Int):=by omega
  obtain⟨i1,i2,i3,i4⟩:=qm (q1 u (om HY));have hfm:=ui (l:=el) sF HY;have hfle:=AK sF el (j+1);obtain⟨un,⟨uA,uc,ul⟩⟩:=u;have f0:=hP.c0;have f1:=hP.c1;have hjr:=qi.Oi hP.tg;simp only[]at f0 f1 i1 i2 i3 i4;have i5:=jM i1;have i6:=Gs i4 (by omega);have hsl:=jr un;have HJ:=iB (fun U (hU:ik wr U)=>hjr.join (w:=wr) ⟨#[32,124,32]⟩ (by rw[show ((⟨#[32,124,32]⟩:ByteArray).data.toList)=iY Jj from rfl,C0];omega) U hU);rw[show ((⟨#[32,124,32]⟩:ByteArray).data.toList)=iY Jj from rfl,C0]at HJ;obtain⟨z,hz⟩:∃z,iY (vY ul)=z:=⟨_,rfl⟩;rw[hz]at HJ i6;obtain⟨S1,e1,g1⟩:=jh (A:=⟨#[116,121,112,101,32]⟩) (a:=[116,121,112,101,32]) (B:=un) rfl (qd un).symm (by simp;omega);obtain⟨S2,e2,g2⟩:=jh (B:=⟨#[32,61,32]⟩) (b:=[32,61,32]) e1 rfl (by simp;omega);obtain⟨S3,e3,g3⟩:=jh (B:=lG z) e2 rfl (by simp;omega);obtain⟨S4,e4,g4⟩:=jh (B:=⟨#[59]⟩) (b:=[59]) e3 rfl (by simp;omega);have hft:(iY ((el.take j).flatMap sF)).length+(iY (sF ⟨un,⟨uA,uc,ul⟩⟩)).length<=140737488355328:=by
   have h1:=HL.out;rw[HF.out,mo]at h1;rw[hfm,mo]at hfle;omega
  have HA:=ur HN.out 0 iI (mB [116,121,112,101]::.sp 32::rM un::.sp 32::mf [61]::.sp 32::(vY ul++[mf [59]])) (S:=S4)
   (by rw[e4,kH,jn,lQ,jn,jl,jn,iC,hz,jl,ja];simp) hft
  have Hfm:=iy hfm;clear hfm hfle hft HY hP hjr i1 i2 i3 i4 i5 i6 hz e1 e2 e3 e4 hsl x1 q1 q2;go_wp2_with fail;refine jf 10 kp kp ?_;simp only[sD,rP,uB,sS];repeat (go_big_quiet_step ((go_at_call 18;with_reducible exact mR (HJ.out _ iR))))
  refine wpQuiet_nil ?_;rintro _ ⟨y_,rfl⟩;go_wp2_with fail;refine (HA _ iR).mono ?_;rintro e w2 ⟨rfl,hL2,hs2⟩;go_wp2_with fail;go_roundw
  case rel=>exact⟨j+1,iu,by go_num,by show Ln _ _ _ _ _ _ _ _;rw[Hfm.out];exact hL2⟩
  case measure=>simp[intOf];omega
 obtain rfl:j=el.length:=iu;have hlI:¬((el.length:Int)<(el.length:Int)):=iu;have hn9:=HN.out;rw[pf]at hn9;have HN9:=iy hn9;clear hn9 HN HN0;obtain⟨w3,hw3⟩:∃w3,w3=wr:=⟨_,rfl⟩;subst hw3;go_wp2_with fail;clear x1 lb lg;go_loopw [46] (fun i wr=>∃j:Nat,j<=nl.length/\i=.int .i64 j/\Hid (Ln B B.heap.size eA el.length ec mb wr (iY (el.flatMap sF)++iY ((nl.take j).flatMap (qo el))))) (fun i _=>nl.length-(intOf i).toNat)
 case atStart=>exact⟨0,iu,rfl,by show Ln _ _ _ _ _ _ _ _;rw[rP];show Ln _ _ _ _ _ _ _ (_++[]);rw[oV];exact HN9⟩
 case round=>
 obtain⟨j,hj,rfl,HN⟩:=hrel;have aBr2:=HN.aft;by_cases hlt:j<nl.length
 ·obtain⟨b,p,u,hA0,hleb,HY,hP⟩:=(HND.Sr wr (k:=ij hw (ij aB0 aBr2))).part (i:=j) hlt
  obtain⟨b9,o9,hPB⟩:=(HND.out.Sr B (k:=ij hw aB0)).elem HY.out;simp only[]at hA0;subst hA0;have hlJ:(j:Int)<(nl.length:Int):=iu;have hfm:=ui (l:=nl) (qo el) HY.out;have hfle:=AK (qo el) nl (j+1);have hw9:=Np (g:=B.heap.size) HB.out hPB (q2 u (om HY.out));obtain⟨nn,⟨iA,ic,il⟩,⟨oA,oc,ol⟩,⟨lA,lc,ll⟩,⟨qA,qc,ql⟩,⟨aA,ac,al⟩,⟨sA,sc,sl⟩,⟨eA2,ec2,nl2⟩⟩:=u;obtain⟨f0,f1,f2,f3,f4,f5,f6,f7,-⟩:=hP;simp only[]at f0 f1 f2 f3 f4 f5 f6 f7 hw9;have HC:Hid (∀U,ik wr U->Calls prog 19 #[.pointer (some ⟨B.heap.size,0,none⟩),.agg #[.string nn,.slice iA il.length ic,.slice oA ol.length oc,.slice lA ll.length lc,.slice qA ql.length qc,.slice aA al.length ac,.slice sA sl.length sc,.slice eA2 nl2.length ec2]] U fun e w'=>e=.returned (.tuple #[])/\Ln B B.heap.size eA el.length ec mb w' (iY (el.flatMap sF)++iY ((nl.take (j+1)).flatMap (qo el)))):=iy fun U hU=>by
   refine (hw9 U _ (HN.out.after hU) ?_).mono ?_
   ·have h1:=HL.out
    rw[HF.out,mo]at h1;rw[hfm,mo]at hfle;rw[mo];omega
   rintro e w' ⟨h1,h2,h3⟩;exact⟨h1,by rw[hfm,<- kD];exact h2⟩
  clear hfm hfle hw9 HY hPB q1 q2;go_wp2_with fail;refine (HC.out _ iR).mono ?_;rintro e w2 ⟨rfl,hL2⟩;go_wp2_with fail;go_roundw
  case rel=>exact⟨j+1,iu,by go_num,hL2⟩
  case measure=>simp[intOf];omega
 obtain rfl:j=nl.length:=iu;have hlJ:¬((nl.length:Int)<(nl.length:Int)):=iu;have hn9:=HN.out;rw[pf,<- HF.out]at hn9;have HS:=iy (JF wr TP hn9);clear hn9 HN;go_wp2_with fail;refine HS.out.mono ?_;rintro e w2 ⟨rfl,a2⟩;go_wp2_with fail;exact jR (v:=.tuple #[.string (lG TP),.int .i64 0]) (by simp[results,results6,go_sem]) rfl ⟨rfl,ij aB0 a2⟩
end
end
end Go.Proofs.YtnigblndonocfaaGreatDoor
