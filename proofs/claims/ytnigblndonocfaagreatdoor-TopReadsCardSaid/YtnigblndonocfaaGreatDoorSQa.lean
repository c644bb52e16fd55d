/- A part of the proof. -/
import Derived.Test.YtnigblndonocfaaGreatDoorTScan
import Derived.WalkLawsBesides
set_option linter.unusedVariables false
set_option linter.unusedSimpArgs false
namespace Go.Proofs.YtnigblndonocfaaGreatDoor
set_option maxRecDepth 100000
set_option maxHeartbeats 4000000
open Go.RowKit Go.BigFrame
inductive Pc where
 |tk (t:Tk)
 |sp (c:UInt8)
def Dt (t:Tk):List UInt8:=if t.kind=5 then 39::(t.text.data.toList++[39]) else t.text.data.toList
def iY:List Pc->List UInt8
 |[]=>[]
 |.tk t::ps=>Dt t++iY ps
 |.sp c::ps=>c::iY ps
def toks:List Pc->List Tk
 |[]=>[]
 |.tk t::ps=>t::toks ps
 |.sp _::ps=>toks ps
theorem iC:∀(a b:List Pc),iY (a++b)=iY a++iY b
 |[],b=>rfl
 |.tk t::a,b=>by show Dt t++iY (a++b)=Dt t++iY a++iY b;rw[iC a b,kD]
 |.sp c::a,b=>by show c::iY (a++b)=c::(iY a++iY b);rw[iC a b]
theorem iN:∀(a b:List Pc),toks (a++b)=toks a++toks b
 |[],b=>rfl
 |.tk t::a,b=>by show t::toks (a++b)=t::(toks a++toks b);rw[iN a b]
 |.sp c::a,b=>iN a b
def RM (s:ByteArray):Bool:=decide (0<s.size)&&decide (s.size<=40)&&mg (s.data.toList.headD 0).toNat&&s.data.toList.all (fun c=>jQ c.toNat)&&OM s
def Ri (s:ByteArray):Bool:=decide (0<s.size)&&s.data.toList.all (fun c=>jw c.toNat)&&!(decide (1<s.size)&&qM s 0==48)&&!(decide (5<s.size)||(decide (s.size=5)&&Ft s))
def P7 (t:Tk):Bool:=
 if t.kind=1 then kT t.text else if t.kind=2 then Ri t.text else if t.kind=3 then RM t.text else if t.kind=4 then xG.any (fun s=>s.data.toList==t.text.data.toList) else if t.kind=5 then t.text.data.toList.all (fun c=>yc c.toNat) else false
def wa (t:Tk) (c:UInt8):Bool:=
 if t.kind=4 then !(t.text.data.toList==[45]&&(c==45||c==62))&&!(t.text.data.toList==[60]&&(c==61||c==62))&&!(t.text.data.toList==[62]&&c==61)
 else if t.kind=5 then true else !jQ c.toNat
def zD (c:UInt8) (ps:List Pc):UInt8:=(iY ps).headD c
def zE (c:UInt8):List Pc->Bool
 |[]=>true
 |.tk t::ps=>P7 t&&wa t (zD c ps)&&zE c ps
 |.sp b::ps=>ke b.toNat&&zE c ps
theorem Jo (c:UInt8) (a b:List Pc):zD c (a++b)=zD (zD c b) a:=by
 unfold zD;rw[iC];cases iY a<;>rfl
theorem se (c:UInt8):∀(a b:List Pc),zE c (a++b)=(zE (zD c b) a&&zE c b)
 |[],b=>by show zE c b=(true&&zE c b);rw[xI]
 |.tk t::a,b=>by
  show (P7 t&&wa t (zD c (a++b))&&zE c (a++b))=(P7 t&&wa t (zD (zD c b) a)&&zE (zD c b) a&&zE c b)
  rw[se c a b,Jo];simp only[Bool.and_assoc]
 |.sp x::a,b=>by
  show (ke x.toNat&&zE c (a++b))=(ke x.toNat&&zE (zD c b) a&&zE c b)
  rw[se c a b];simp only[Bool.and_assoc]
theorem Dq {p:UInt8->Bool} {a r:List UInt8} (ha:a.all p=true) (hr:p (r.headD 32)=false):(a++r).takeWhile p=a:=by
 induction a with
 |nil=>
  cases r with
  |nil=>rfl
  |cons c r=>simp only[List.headD_cons]at hr;simp[CZ,hr]
 |cons c a ih=>
 simp only[Bh,mT]at ha;simp only[lP,CZ,ha.1,if_true,ih ha.2]
theorem Ah {p:Int->Bool} {s:ByteArray} {b:Nat} {a r:List UInt8} (h:s.data.toList.drop b=a++r) (ha:a.all (fun c=>p c.toNat)=true) (hr:p ((r.headD 32).toNat:Nat)=false):jv p s b=a.length:=by
 unfold jv;rw[h,Dq ha hr]
theorem wD {s t:ByteArray} {b:Nat} {r:List UInt8} (h:s.data.toList.drop b=t.data.toList++r):s.extract b (b+t.size)=t:=by
 have e:(s.extract b (b+t.size)).data.toList=t.data.toList:=by
  rw[Lib.extract_data,show b+t.size-b=t.size by omega,h];rw[List.take_append_of_le_length (by rw[jr];exact js _)];rw[<- jr,pf]
 cases hx:s.extract b (b+t.size) with
 |mk d=>
 rw[hx]at e;cases t with
 |mk d'=>
 congr 1;exact Array.toList_inj.1 e
theorem ve {s:ByteArray} {b:Nat} {c:UInt8} {r:List UInt8} (h:s.data.toList.drop b=c::r):qM s b=c.toNat:=by unfold qM;rw[h];rfl
theorem wK {s:ByteArray} {b:Nat} {a r:List UInt8} (h:s.data.toList.drop b=a++r):s.data.toList.drop (b+a.length)=r:=by
 rw[<- List.drop_drop,h,List.drop_left]
theorem uq {s:ByteArray} (h:0<s.size):∃c l,s.data.toList=c::l:=by
 cases hs:s.data.toList with
 |nil=>rw[<- jr,hs]at h;simp at h
 |cons c l=>exact⟨c,l,rfl⟩
theorem MY {p:Nat->Bool} (h:(List.range 256).all p=true) (c:UInt8):p c.toNat=true:=
 Bk.1 h _ (List.mem_range.2 c.toNat_lt)
theorem Er (c:UInt8):((mg c.toNat&&ke c.toNat)||(mg c.toNat&&jw c.toNat)||(mg c.toNat&&(c.toNat==39||c.toNat==45))||(jw c.toNat&&ke c.toNat)||(jw c.toNat&&(c.toNat==39||c.toNat==45)))=false:=by
 have:=MY (p:=fun c:Nat=>!((mg c&&ke c)||(mg c&&jw c)||(mg c&&(c==39||c==45))||(jw c&&ke c)||(jw c&&(c==39||c==45)))) (by decide +kernel) c;rw[IU]at this;exact this
theorem Ew {s:ByteArray} {b:Nat} {t:ByteArray} {r:List UInt8} (h:s.data.toList.drop b=t.data.toList++r) (h0:0<t.size) (h40:t.size<=40) (hl:mg (t.data.toList.headD 0).toNat=true) (hi:t.data.toList.all (fun c=>jQ c.toNat)=true) (hr:jQ ((r.headD 32).toNat:Nat)=false) :
  oK s b=some (⟨if OM t then 3 else 1,t⟩,b+t.size):=by
 obtain⟨c,l,j⟩:=uq h0;rw[j,List.headD_cons]at hl;have I:qM s b=c.toNat:=ve (r:=l++r) (by rw[h,j];rfl);have o:jv jQ s b=t.size:=by rw[Ah h hi hr,jr]
 unfold oK;rw[I,iG hl];unfold BS;rw[o,wD h];unfold Bb;rw[iV iu]
theorem H' {s:ByteArray} {b:Nat} {t:ByteArray} {r:List UInt8} (h:s.data.toList.drop b=t.data.toList++r) (ht:Ri t=true) (hr:jQ ((r.headD 32).toNat:Nat)=false) :
  oK s b=some (⟨2,t⟩,b+t.size):=by
 unfold Ri at ht;simp only[mT,decide_eq_true_eq,IU]at ht;obtain⟨⟨⟨h0,o⟩,h1⟩,h5⟩:=ht;obtain⟨c,l,R⟩:=uq h0;have j:jw c.toNat=true:=by rw[R]at o;simp only[Bh,mT]at o;exact o.1
 have J:mg c.toNat=false:=by
  have:=Er c;cases hx:mg c.toNat with
  |false=>rfl
  |true=>rw[hx,j]at this;simp at this
 have hb:qM s b=c.toNat:=ve (r:=l++r) (by rw[h,R];rfl);have I:jw ((r.headD 32).toNat:Nat)=false:=by
  unfold jQ at hr;simp only[Bool.or_eq_false_iff]at hr;exact hr.1.2
 have U:jv jw s b=t.size:=by rw[Ah h o I,jr]
 unfold oK;rw[hb,J,iV iI,iG j];unfold vw;rw[U,wD h];unfold rh;rw[h1,iV iI,h5,iV iI]
theorem LL {s:ByteArray} {b:Nat} {t:ByteArray} {r:List UInt8} (h:s.data.toList.drop b=39::(t.data.toList++[39])++r) (ht:t.data.toList.all (fun c=>yc c.toNat)=true) :
  oK s b=some (⟨5,t⟩,b+(t.size+2)):=by
 have U:=ve (c:=39) (r:=t.data.toList++[39]++r) (by rw[h];rfl);have I:s.data.toList.drop (b+1)=t.data.toList++(39::r):=by
  rw[<- List.drop_drop,h];simp
 have R:jv yc s (b+1)=t.size:=by rw[Ah I ht (show yc (((39:UInt8).toNat:Nat):Int)=false by decide),jr]
 have o:s.data.toList.drop (b+1+t.size)=39::r:=by
  have:=wK I;rwa [jr]at this
 have h3:=ve o;have j:b+1+t.size<s.size:=by
  rcases qa (b+1+t.size) s.size with J | J
  ·exact J
  rw[Bn (by rw[jr];exact J)]at o;simp at o
 unfold oK;rw[U,iV iI,iV iI,iG iI];unfold BL;rw[R,wD I,iG ⟨j,h3⟩,show b+1+t.size+1=b+(t.size+2) by omega]
theorem ML {t:ByteArray} {r:List UInt8} (ht:(xG.any (fun s=>s.data.toList==t.data.toList))=true) (hs:wa ⟨4,t⟩ (r.headD 32)=true):(ux (t.data.toList++r) xG).data.toList=t.data.toList/\0<t.size/\(∀c l,t.data.toList++r=c::l->mg c.toNat=false/\jw c.toNat=false/\((c.toNat:Nat)==(39:Int))=false/\ke c.toNat=false)/\¬(Lib.hasPrefix (t.data.toList++r) [45,45]=true):=by
 rw[<- jr];unfold wa at hs;rw[iG rfl]at hs;simp only[xG,List.any_cons,List.any_nil,Bool.or_false,uG,beq_iff_eq]at ht;generalize t.data.toList=x at ht hs;rcases r with _ | ⟨c,r⟩<;>simp only[List.headD_nil,List.headD_cons]at hs <;>
 rcases ht with ht | ht | ht | ht | ht | ht | ht | ht | ht | ht | ht | ht | ht | ht | ht | ht | ht<;>subst ht <;>
 (refine⟨?_,iI,?_,?_⟩
  ·first
   |(simp[ux,xG,qx,Lib.hasPrefix,List.isPrefixOf,ByteArray.size];done)
   |(simp at hs;have j:=hs;simp only[@eq_comm _ c]at j;simp[ux,xG,qx,Lib.hasPrefix,List.isPrefixOf,hs,j,ByteArray.size])
  ·intro c l h
   simp only[lP,sb,List.cons.injEq]at h;obtain⟨rfl,-⟩:=h;decide
  first
  |(simp[Lib.hasPrefix,List.isPrefixOf];done)
  |(simp at hs;have j:=hs;simp only[@eq_comm _ c]at j;simp[Lib.hasPrefix,List.isPrefixOf,hs,j]))
theorem Fe {t:Tk} (h:t.kind≠5):Dt t=t.text.data.toList:=iV h
theorem I5 {s:ByteArray} {b:Nat} {t:Tk} {r:List UInt8} (h:s.data.toList.drop b=Dt t++r) (hv:P7 t=true) (hs:wa t (r.headD 32)=true) :
  oK s b=some (t,b+(Dt t).length)/\0<(Dt t).length/\(∀c l,Dt t++r=c::l->ke c.toNat=false)/\Lib.hasPrefix (Dt t++r) [45,45]=false:=by
 obtain⟨k,x⟩:=t;unfold P7 at hv;simp only[]at hv;have j:∀c l,Dt ⟨k,x⟩=c::l->(mg c.toNat=true\/jw c.toNat=true)->(∀c l,Dt ⟨k,x⟩++r=c::l->ke c.toNat=false)/\Lib.hasPrefix (Dt ⟨k,x⟩++r) [45,45]=false:=by
  intro c l o a6;rw[o];have a1:=Er c;have h1:ke c.toNat=false:=by
   cases hx:ke c.toNat with
   |false=>rfl
   |true=>rcases a6 with h | h<;>(rw[hx,h]at a1;simp at a1)
  have h2:c≠45:=by
   intro e;subst e;rcases a6 with h | h<;>exact absurd h iI
  refine⟨fun c' l' e=>?_,?_⟩
  ·injection e with e1 e2
   rw[<- e1];exact h1
  simp[Lib.hasPrefix,List.isPrefixOf,ls h2]
 by_cases k1:k=1
 ·subst k1
  rw[iG rfl]at hv;unfold kT at hv;simp only[mT,decide_eq_true_eq,IU]at hv;obtain⟨⟨⟨⟨I,R⟩,J⟩,hi⟩,hk⟩:=hv;have e:Dt ⟨1,x⟩=x.data.toList:=Fe (show (1:Int)≠5 by decide);obtain⟨c,l,o⟩:=uq I;have U:jQ ((r.headD 32).toNat:Nat)=false:=by
   unfold wa at hs;rw[iV (show ¬(1:Int)=4 by decide),iV (show ¬(1:Int)=5 by decide)]at hs;simpa using hs
  have:=Ew (by rw[h,e]) I R J hi U;rw[hk,iV iI]at this;rw[o,List.headD_cons]at J;refine⟨by rw[e];exact this,by rw[e];exact I,j c l (e.trans o) (.inl J)⟩
 by_cases k2:k=2
 ·subst k2
  rw[iV iI,iG rfl]at hv;have e:Dt ⟨2,x⟩=x.data.toList:=Fe (show (2:Int)≠5 by decide);have I:0<x.size/\x.data.toList.all (fun c=>jw c.toNat)=true:=by
   unfold Ri at hv;simp only[mT,decide_eq_true_eq]at hv;exact⟨hv.1.1.1,hv.1.1.2⟩
  obtain⟨c,l,o⟩:=uq I.1;have hd:jw c.toNat=true:=by have:=I.2;rw[o]at this;simp only[Bh,mT]at this;exact this.1
  have U:jQ ((r.headD 32).toNat:Nat)=false:=by
   unfold wa at hs;rw[iV (show ¬(2:Int)=4 by decide),iV (show ¬(2:Int)=5 by decide)]at hs;simpa using hs
  exact⟨by rw[e];exact H' (by rw[h,e]) hv U,by rw[e];exact I.1,j c l (e.trans o) (.inr hd)⟩
 by_cases k3:k=3
 ·subst k3
  rw[iV (by decide),iV (by decide),iG rfl]at hv;unfold RM at hv;simp only[mT,decide_eq_true_eq]at hv;obtain⟨⟨⟨⟨I,R⟩,J⟩,hi⟩,hk⟩:=hv;have e:Dt ⟨3,x⟩=x.data.toList:=Fe (show (3:Int)≠5 by decide);obtain⟨c,l,o⟩:=uq I;have U:jQ ((r.headD 32).toNat:Nat)=false:=by
   unfold wa at hs;rw[iV (show ¬(3:Int)=4 by decide),iV (show ¬(3:Int)=5 by decide)]at hs;simpa using hs
  have:=Ew (by rw[h,e]) I R J hi U;rw[hk,iG rfl]at this;rw[o,List.headD_cons]at J;refine⟨by rw[e];exact this,by rw[e];exact I,j c l (e.trans o) (.inl J)⟩
 by_cases k4:k=4
 ·subst k4
  rw[iV (by decide),iV (by decide),iV (by decide),iG rfl]at hv;have e:Dt ⟨4,x⟩=x.data.toList:=Fe (show (4:Int)≠5 by decide);obtain⟨h1,h2,h3,h4⟩:=ML hv hs;rw[e]at h⊢;refine⟨?_,h2,fun c l o=>(h3 c l o).2.2.2,by simpa using h4⟩;obtain⟨c,l,o⟩:=uq h2;obtain⟨g1,g2,g3,-⟩:=h3 c (l++r) (by rw[o];rfl);have hb:qM s b=c.toNat:=ve (r:=l++r) (by rw[h,o];rfl);unfold oK;rw[hb,g1,iV (by decide),g2,iV (by decide),g3,iV (by decide)];unfold vy;rw[h];have a7:(ux (x.data.toList++r) xG)=x:=by
   generalize ux (x.data.toList++r) xG=y at h1;cases x;cases y;congr 1;exact Array.toList_inj.1 h1
  rw[a7,iV (by omega)];rfl
 by_cases k5:k=5
 ·subst k5
  rw[iV (by decide),iV (by decide),iV (by decide),iV (by decide),iG rfl]at hv;have e:Dt ⟨5,x⟩=39::(x.data.toList++[39]):=iG rfl;rw[e]at h⊢;refine⟨?_,by simp,fun c l o=>?_,?_⟩
  ·rw[LL h hv]
   simp only[py,mo,wJ,jr]
  ·simp only[lP,List.cons.injEq]at o
   obtain⟨rfl,-⟩:=o;decide
  simp[Lib.hasPrefix,List.isPrefixOf]
 rw[iV k1,iV k2,iV k3,iV k4,iV k5]at hv;cases hv
theorem BD {p:UInt8->Bool} {a r:List UInt8} (ha:a.all p=true) (hr:∀c l,r=c::l->p c=false):(a++r).takeWhile p=a:=by
 induction a with
 |nil=>
  cases r with
  |nil=>rfl
  |cons c r=>simp[CZ,hr c r rfl]
 |cons c a ih=>
 simp only[Bh,mT]at ha;simp only[lP,CZ,ha.1,if_true,ih ha.2]
theorem GL {s:ByteArray} {a:Nat} {bl r:List UInt8} (f:Nat) (h:s.data.toList.drop a=bl++r) (hb:bl.all (fun c=>ke c.toNat)=true) (hr:∀c l,r=c::l->ke c.toNat=false) (hd:Lib.hasPrefix r [45,45]=false):uh (f+1) s a=a+bl.length:=by
 have j:jv ke s a=bl.length:=by unfold jv;rw[h,BD hb hr]
 unfold uh;rw[j,wK h,hd,iV iI]
theorem CC {s:ByteArray}:∀(ps:List Pc) (bl:List UInt8) (a f:Nat),s.data.toList.drop a=bl++iY ps->bl.all (fun c=>ke c.toNat)=true->zE 32 ps=true->s.size-a<f->a<=s.size->sH f s a=some (toks ps)
 |[],bl,a,f,h,hb,_,hf,ha=>by
  obtain⟨f,rfl⟩:∃g,f=g+1:=⟨f-1,by omega⟩;have hsk:=GL s.size h hb (fun c l e=>by cases e) rfl;have hlen:s.size-a=bl.length:=by
   have:=nQ List.length h;rw[nY,jr,mo]at this;simpa[iY] using this
  unfold sH;rw[hsk,iG (by omega)];rfl
 |.tk t::ps,bl,a,f,h,hb,j,hf,ha=>by
  obtain⟨f,rfl⟩:∃g,f=g+1:=⟨f-1,by omega⟩;have j:(P7 t&&wa t (zD 32 ps)&&zE 32 ps)=true:=j;simp only[mT]at j;obtain⟨⟨o,I⟩,j⟩:=j;have h:s.data.toList.drop a=bl++(Dt t++iY ps):=h;obtain⟨h1,h2,U,R⟩:=I5 (wK h) o I;have hsk:=GL s.size h hb U R;have J:=wK (wK h);have hlen:s.size-a=bl.length+((Dt t).length+(iY ps).length):=by
   have:=nQ List.length h;rw[nY,jr,mo,mo]at this;exact this
  unfold sH;rw[hsk,iV iu,h1];show (sH f s (a+bl.length+(Dt t).length)).map (t::·)=_
  rw[CC ps [] (a+bl.length+(Dt t).length) f (by rw[J];rfl) rfl j iu iu];rfl
 |.sp c::ps,bl,a,f,h,hb,j,hf,ha=>by
  have j:(ke c.toNat&&zE 32 ps)=true:=j;simp only[mT]at j;exact CC ps (bl++[c]) a f (by rw[h];show bl++(c::iY ps)=_;simp) (by rw[He,hb];simpa using j.1) j.2 hf ha
theorem Gn {s:ByteArray} {ps:List Pc} (h:s.data.toList=iY ps) (ho:zE 32 ps=true) (hs:s.size<=65536):nP s=some (toks ps):=by
 unfold nP;rw[iV iu];exact CC ps [] 0 (s.size+1) (by rw[sS,h];rfl) rfl ho iu iu
section
open Go.Proofs.Tryz
def uw (nd q E:Int):Ending:=.panicked [{ v:=.iface 105 (.agg #[nd,q,E]),recovered:=false }]
def PE (w:World) (nd q E:Int) (e:Ending) (w':World):Prop:=ik w w'/\((E=0/\e=.returned (.tuple #[]))\/(E≠0/\e=uw nd q E))
theorem PE.Tw {w w':World} {nd q:Int} {e:Ending} (h:PE w nd q 0 e w'):e=.returned (.tuple #[])/\ik w w':=by
 rcases h.2 with⟨_,h2⟩ | ⟨h1,_⟩
 ·exact⟨h2,h.1⟩
 exact absurd rfl h1
theorem PE.Oq {w w':World} {nd q E:Int} {e:Ending} (h:PE w nd q E e w') (hE:E≠0):e=uw nd q E/\ik w w':=by
 rcases h.2 with⟨h1,_⟩ | ⟨_,h2⟩
 ·exact absurd h1 hE
 exact⟨h2,h.1⟩
theorem PE.Rv {w w':World} {nd q E:Int} {e:Ending} (h:PE w nd q E e w') (hE:E=0):e=.returned (.tuple #[])/\ik w w':=by subst hE;exact h.Tw
theorem PE.to {w w':World} {nd q E:Int} {e:Ending} (h:PE w nd q E e w') {F:Int} (hE:E=F):PE w nd q F e w':=hE▸h
theorem PE.Ss {w w':World} {nd q:Int} (h:ik w w'):PE w nd q 0 (.returned (.tuple #[])) w':=⟨h,.inl ⟨rfl,rfl⟩⟩
theorem PE.RD {w w':World} {nd q E:Int} (hE:E≠0) (h:ik w w'):PE w nd q E (uw nd q E) w':=⟨h,.inr ⟨hE,rfl⟩⟩
def pK (w:World) (g:Nat) (A:Option Addr) (n c:Nat) (nd q:Int):Prop:=iP w g 109 #[.slice A n c,nd,q]
theorem pK.here {w0:World} {g A n c nd q} (h:pK w0 g A n c nd q) (w:World) [k:ik w0 w]:pK w g A n c nd q:=mZ h
theorem pK.fields {w:World} {g A n c nd q} (h:pK w g A n c nd q):w.cell? g=some (.slice A n c)/\w.cell? ⟨g,1,none⟩=some (.int .i64 nd)/\w.cell? ⟨g,2,none⟩=some (.int .i64 q)/\Le (g+1) w:=
 ⟨by rw[uJ h];rfl,by rw[uJ h];rfl,by rw[uJ h];rfl,jo h⟩
theorem Hb (w:World) (g:Nat) (e:Int):Calls prog 39 #[.pointer (some g),.bool true,e] w fun e' w'=>e'=.returned (.tuple #[])/\w'=w:=by
 go_in;go_wp2;go_end0;exact⟨rfl,rfl⟩
theorem JW {w:World} {g A n c nd q} (h:pK w g A n c nd q) (e:Int):Calls prog 39 #[.pointer (some g),.bool false,e] w fun e' w'=>e'=uw nd q e/\w'=w:=by
 obtain⟨J,I,o,j⟩:=h.fields;go_in;go_wp2;exact⟨rfl,rfl,rfl⟩
theorem rC {w:World} {g A n c nd q} (h:pK w g A n c nd q) (ok:Bool) (e:Int) (he:e≠0):Calls prog 39 #[.pointer (some g),.bool ok,e] w fun e' w'=>PE w nd q (if ok then 0 else e) e' w':=by
 cases ok with
 |true=>
  refine (Hb w g e).mono ?_;rintro e' w' ⟨rfl,rfl⟩;exact PE.Ss iR
 |false=>
 refine (JW h e).mono ?_;rintro e' w' ⟨rfl,rfl⟩;exact PE.RD he iR
theorem Au {w:World} {g A n c nd q} (h:pK w g A n c nd q) (e:Int):Calls prog 78 #[.pointer (some g),e] w fun e' w'=>PE w nd q e e' w':=by
 by_cases o:e=0
 ·subst o
  have I:=iB (Hb w g 0);go_in;go_wp2_with fail;refine I.mono ?_;rintro e' w' ⟨rfl,j⟩;rw[j];go_wp2;go_end0;exact PE.Ss inferInstance
 have J:(e==0)=false:=by rw[beq_eq_false_iff_ne];exact o
 have I:=iB (JW h e);go_in;go_wp2_with fail;refine I.mono ?_;rintro e' w' ⟨rfl,j⟩;rw[j];unfold uw;go_wp2;exact⟨rfl,PE.RD o iR⟩
end
section
open Go.Proofs.Tryz
theorem qs:(prog.info? 73).map (fun i=>(i.zero,i.size,i.bytes))=some (some (.agg #[.int .i64 0,.int .i64 0,.int .i64 0,.int .i64 0,.string ByteArray.empty,.slice none 0 0]),6,72):=by kernel_rfl
end
section
open Go.Proofs.Tryz
theorem toList_inj {a b:ByteArray} (h:a.toList=b.toList):a=b:=by
 rw[nC,nC]at h;cases a;cases b;simp at h;rw[h]
inductive Ex where
 |mk (k o t v:Int) (s:ByteArray) (xs:List Ex)
mutual
def Tx.er:Tx->Ex
 |.mk k o t v s _ _ xs=>.mk k o t v s (Tx.kv xs)
def Tx.kv:List Tx->List Ex
 |[]=>[]
 |a::xs=>Tx.er a::Tx.kv xs
end
theorem nM:∀l:List Tx,(Tx.kv l).length=l.length
 |[]=>rfl
 |a::l=>by rw[Tx.kv,py,py,nM l]
theorem EK:∀(l:List Tx) (i:Nat),(Tx.kv l)[i]?=(l[i]?).map Tx.er
 |[],i=>by simp[Tx.kv]
 |a::l,0=>by simp[Tx.kv]
 |a::l,i+1=>by simp[Tx.kv,EK l i]
mutual
def Tx.same:Tx->Tx->Bool
 |.mk k o t v s _ _ xs,.mk k' o' t' v' s' _ _ xs'=>(k==k')&&((o==o')&&((t==t')&&((v==v')&&((s.toList==s'.toList)&&(decide (xs.length=xs'.length)&&Tx.rU xs xs')))))
def Tx.rU:List Tx->List Tx->Bool
 |[],_=>true
 |a::xs,[]=>true
 |a::xs,b::ys=>Tx.same a b&&Tx.rU xs ys
end
mutual
theorem wL:∀a b:Tx,a.same b=true↔a.er=b.er
 |.mk k o t v s A c xs,.mk k' o' t' v' s' A' c' xs'=>by
  rw[Tx.same,Tx.er,Tx.er];simp only[mT,beq_iff_eq,decide_eq_true_eq,Ex.mk.injEq];constructor
  ·rintro⟨h1,h2,h3,h4,h5,h6,h7⟩
   exact⟨h1,h2,h3,h4,toList_inj h5,(Ao xs xs' h6).1 h7⟩
  rintro⟨h1,h2,h3,h4,h5,h6⟩;have hl:xs.length=xs'.length:=by rw[<- nM xs,h6,nM]
  exact⟨h1,h2,h3,h4,by rw[h5],hl,(Ao xs xs' hl).2 h6⟩
theorem Ao:∀a b:List Tx,a.length=b.length->(Tx.rU a b=true↔Tx.kv a=Tx.kv b)
 |[],[],_=>by simp[Tx.rU]
 |[],b::bs_,h=>by simp at h
 |a::as_,[],h=>by simp at h
 |a::as_,b::bs_,h=>by
  rw[Tx.rU,Tx.kv,Tx.kv,mT,wL a b,Ao as_ bs_ (by simpa using h)];simp
end
theorem CF:∀{a b:List Tx} {j:Nat} {x y:Tx},a[j]?=some x->b[j]?=some y->Tx.rU (a.take (j+1)) (b.take (j+1))=(Tx.rU (a.take j) (b.take j)&&x.same y)
 |[],b,j,x,y,h,_=>by simp at h
 |a::as_,[],j,x,y,_,h=>by simp at h
 |a::as_,b::bs_,0,x,y,h,h'=>by simp at h h';subst h;subst h';simp[Tx.rU]
 |a::as_,b::bs_,j+1,x,y,h,h'=>by
  have:=CF (a:=as_) (b:=bs_) (j:=j) (x:=x) (y:=y) (by simpa using h) (by simpa using h');simp only[sD,Tx.rU];rw[this,Bool.and_assoc]
theorem Bf:∀{a b:List Tx} {j:Nat} {x y:Tx},a[j]?=some x->b[j]?=some y->x.same y=false->Tx.rU a b=false
 |[],b,j,x,y,h,_,_=>by simp at h
 |a::as_,[],j,x,y,_,h,_=>by simp at h
 |a::as_,b::bs_,0,x,y,h,h',e=>by simp at h h';subst h;subst h';simp[Tx.rU,e]
 |a::as_,b::bs_,j+1,x,y,h,h',e=>by
  rw[Tx.rU,Bf (a:=as_) (b:=bs_) (j:=j) (x:=x) (y:=y) (by simpa using h) (by simpa using h') e,qT]
def xh (a b:List Tx):Bool:=decide (a.length=b.length)&&Tx.rU a b
theorem Pk {A B:Option Addr} {c d:Nat} {xs ys:List Tx} {w0:World} (x:RX w0 (L2 A c xs)) (y:RX w0 (L2 B d ys)) (w:World) (aft:ik w0 w)
  (hS:∀(i:Nat) (k1 o1 t1 v1:Int) (s1:ByteArray) (A1:Option Addr) (c1:Nat) (xs1:List Tx) (k2 o2 t2 v2:Int) (s2:ByteArray) (A2:Option Addr) (c2:Nat) (xs2:List Tx),xs[i]?=some (.mk k1 o1 t1 v1 s1 A1 c1 xs1)->ys[i]?=some (.mk k2 o2 t2 v2 s2 A2 c2 xs2)->∀U:World,ik w0 U ->
   Calls prog 57 #[.agg #[k1,o1,t1,v1,s1,.slice A1 xs1.length c1],.agg #[k2,o2,t2,v2,s2,.slice A2 xs2.length c2]] U fun e w'=>e=.returned (.bool ((Tx.mk k1 o1 t1 v1 s1 A1 c1 xs1).same (.mk k2 o2 t2 v2 s2 A2 c2 xs2)))/\ik U w') :
  Calls prog 56 #[.slice A xs.length c,.slice B ys.length d,.func (.func 57) #[] #[]] w fun e w'=>e=.returned (.bool (xh xs ys))/\ik w w':=by
 replace x:=iy x;replace y:=iy y;replace hS:=iy hS;have a_:=x.bounds;simp only[L2,Tx.args,Tx.cap,Tx.name]at a_;obtain⟨_,aa,aj,a'⟩:=a_;have a8:=y.bounds;simp only[L2,Tx.args,Tx.cap,Tx.name]at a8;obtain⟨_,a7,ai,a6⟩:=a8;obtain⟨n,hn⟩:=jt (xs.length);obtain⟨m,hm⟩:=jt (ys.length);have HV:Hid (xh xs ys=(decide (n=m)&&Tx.rU xs ys)):=iy (by unfold xh;rw[hn,hm]);rw[hn]at aa a'⊢;rw[hm]at a7 a6⊢;by_cases R:n=m
 ·subst R
  go_in;go_wp2_with fail;go_loopw [17] (fun i wr=>∃j:Nat,j<=n/\i=.int .i64 (j:Nat)/\Hid (Tx.rU (xs.take j) (ys.take j)=true)/\ik w wr) (fun i _=>n-(intOf i).toNat)
  case atStart=>exact⟨0,iu,rfl,iy (by simp[Tx.rU]),iR⟩
  case round=>
  obtain⟨j,hj,rfl,HJ,ar⟩:=hrel;have af:=ij aft ar;by_cases ag:j<n
  ·have ah:(j:Int)<(n:Int):=iu
   have ad:j<xs.length:=iu;have a1:j<ys.length:=iu;obtain⟨b,p,k1,o1,t1,v1,s1,A1,c1,xs1,rfl,al,J,ao,e0,e1,e2,e3,e4,e5⟩:=(x.here wr).part (i:=j) ad;obtain⟨b2,p2,k2,o2,t2,v2,s2,A2,c2,xs2,rfl,ak,I,an,g0,g1,g2,g3,g4,g5⟩:=(y.here wr).part (i:=j) a1;have HC:Hid (∀U:World,ik wr U->Calls prog 57 #[.agg #[k1,o1,t1,v1,s1,.slice A1 xs1.length c1],.agg #[k2,o2,t2,v2,s2,.slice A2 xs2.length c2]] U fun e w'=>e=.returned (.bool ((Tx.mk k1 o1 t1 v1 s1 A1 c1 xs1).same (.mk k2 o2 t2 v2 s2 A2 c2 xs2)))/\ik U w'):=iy fun U hU=>hS j _ _ _ _ _ _ _ _ _ _ _ _ _ _ _ _ J I U (ij af hU)
   have HT:Hid (Tx.rU (xs.take (j+1)) (ys.take (j+1))=(Tx.mk k1 o1 t1 v1 s1 A1 c1 xs1).same (.mk k2 o2 t2 v2 s2 A2 c2 xs2)):=iy (by rw[CF J.out I.out,HJ.out,xI]);have HF:Hid ((Tx.mk k1 o1 t1 v1 s1 A1 c1 xs1).same (.mk k2 o2 t2 v2 s2 A2 c2 xs2)=false->Tx.rU xs ys=false):=iy fun h=>Bf J I h
   obtain⟨bb,ae⟩:=jt ((Tx.mk k1 o1 t1 v1 s1 A1 c1 xs1).same (.mk k2 o2 t2 v2 s2 A2 c2 xs2));rw[ae]at HC HT HF;go_wp2_with fail;refine (HC _ iR).mono ?_;rintro e w2 ⟨rfl,a2⟩;have ab:=ij ar (ij iR a2);cases bb with
   |true=>
    go_wp2;go_roundw
    case rel=>exact⟨j+1,iu,by go_num,HT,ab⟩
    case measure=>simp[intOf];omega
   |false=>
   have o:Hid (xh xs ys=false):=iy (by rw[HV.out,HF.out rfl,qT]);go_wp2;go_ret;exact⟨iK (by rw[o.out]),ab⟩
  obtain rfl:j=n:=iu;have o:Hid (xh xs ys=true):=iy (by
   have h_:=HJ.out;rw[HV.out];rw[<- hn,pf,hn,<- hm,pf]at h_;rw[h_];simp)
  go_wp2;go_ret;exact⟨iK (by rw[o.out]),ar⟩
 have o:Hid (xh xs ys=false):=iy (by rw[HV.out,decide_eq_false R,qu]);go_in;go_wp2;go_ret;exact⟨iK (by rw[o.out]),iR⟩
theorem iP.Tr {w:World} {g:Nat} (hg:w.heap.size=g) (t:TypeId) (cs:Array Value):iP (w.alloc (.cells cs t)) g t cs:=by subst hg;exact jC w t cs
theorem Rn (N:Nat):∀(k o t v:Int) (s:ByteArray) (A:Option Addr) (c:Nat) (xs:List Tx) (k' o' t' v':Int) (s':ByteArray) (A':Option Addr) (c':Nat) (xs':List Tx) (w0:World),(Tx.mk k o t v s A c xs).size<=N->RX w0 (.mk k o t v s A c xs)->RX w0 (.mk k' o' t' v' s' A' c' xs')->∀w:World,ik w0 w ->
  Calls prog 57 #[.agg #[k,o,t,v,s,.slice A xs.length c],.agg #[k',o',t',v',s',.slice A' xs'.length c']] w fun e w'=>e=.returned (.bool ((Tx.mk k o t v s A c xs).same (.mk k' o' t' v' s' A' c' xs')))/\ik w w':=by
 induction N with
 |zero=>
  intro k o t v s A c xs k' o' t' v' s' A' c' xs' w0 hs;simp[Tx.size]at hs
 |succ N ih=>
 intro k o t v s A c xs k' o' t' v' s' A' c' xs' w0 hs x y w aa;replace x:=iy x;replace y:=iy y;replace ih:=iy ih;rw[Tx.size]at hs;have I:=x.bounds;simp only[Tx.args,Tx.cap,Tx.name]at I;obtain⟨ak,aj,ai,ah⟩:=I;have j:=y.bounds;simp only[Tx.args,Tx.cap,Tx.name]at j;obtain⟨ag,af,ae,ad⟩:=j;rw[Tx.same];have R:Hid (∀U:World,ik w0 U->Calls prog 56 #[.slice A xs.length c,.slice A' xs'.length c',.func (.func 57) #[] #[]] U fun e w'=>e=.returned (.bool (xh xs xs'))/\ik U w'):=iy fun U hU=>by
  refine Pk ?_ ?_ U hU ?_
  ·have J:=x.out;unfold L2;rw[RX]at J⊢;exact⟨iI,J.2⟩
  ·have J:=y.out;unfold L2;rw[RX]at J⊢;exact⟨iI,J.2⟩
  intro i k1 o1 t1 v1 s1 A1 c1 an k2 o2 t2 v2 s2 A2 c2 al h1 h2 U' a';have hm:=Tx.sizes_mem h1;exact ih _ _ _ _ _ _ _ _ _ _ _ _ _ _ _ _ w0 (by omega) (x.all _ (om h1)) (y.all _ (om h2)) U' a'
 unfold xh at R;obtain⟨q1,a_⟩:=jt ((k==k'));obtain⟨q2,a8⟩:=jt ((o==o'));obtain⟨q3,a7⟩:=jt ((t==t'));obtain⟨q4,a6⟩:=jt ((v==v'));obtain⟨q5,a1⟩:=jt ((s.toList==s'.toList));rw[a_,a8,a7,a6,a1];cases q1 with
 |false=>
  go_in;go_wp2;go_ret;exact⟨by simp,iR⟩
 |true=>
 cases q2 with
 |false=>
  go_in;go_wp2;go_ret;exact⟨by simp,iR⟩
 |true=>
 cases q3 with
 |false=>
  go_in;go_wp2;go_ret;exact⟨by simp,iR⟩
 |true=>
 cases q4 with
 |false=>
  go_in;go_wp2;go_ret;exact⟨by simp,iR⟩
 |true=>
 cases q5 with
 |false=>
  go_in;go_wp2;go_ret;exact⟨by simp,iR⟩
 |true=>
 go_in;go_wp2_with fail;refine (R _ (ij aa iR)).mono ?_;rintro e w2 ⟨rfl,a2⟩;have ab:ik w w2:=ij inferInstance a2;go_wp2;go_ret;exact⟨by simp,ab⟩
theorem CW {k o t v:Int} {s:ByteArray} {A:Option Addr} {c:Nat} {xs:List Tx} {k' o' t' v':Int} {s':ByteArray} {A':Option Addr} {c':Nat} {xs':List Tx} {w0:World} (x:RX w0 (.mk k o t v s A c xs)) (y:RX w0 (.mk k' o' t' v' s' A' c' xs')) (w:World) (aft:ik w0 w) :
  Calls prog 57 #[.agg #[k,o,t,v,s,.slice A xs.length c],.agg #[k',o',t',v',s',.slice A' xs'.length c']] w fun e w'=>e=.returned (.bool ((Tx.mk k o t v s A c xs).same (.mk k' o' t' v' s' A' c' xs')))/\ik w w':=Rn _ _ _ _ _ _ _ _ _ _ _ _ _ _ _ _ _ _ (js _) x y w aft
end
section
open Go.Proofs.Tryz
def kW {α:Type} (f:α->α->Bool):List α->List α->Bool
 |[],_=>true
 |_::_,[]=>true
 |a::xs,b::ys=>f a b&&kW f xs ys
theorem oJ {α:Type} (f:α->α->Bool):∀{a b:List α} {j:Nat} {x y:α},a[j]?=some x->b[j]?=some y->kW f (a.take (j+1)) (b.take (j+1))=(kW f (a.take j) (b.take j)&&f x y)
 |[],b,j,x,y,h,_=>by simp at h
 |a::as_,[],j,x,y,_,h=>by simp at h
 |a::as_,b::bs_,0,x,y,h,h'=>by simp at h h';subst h;subst h';simp[kW]
 |a::as_,b::bs_,j+1,x,y,h,h'=>by
  have:=oJ f (a:=as_) (b:=bs_) (j:=j) (x:=x) (y:=y) (by simpa using h) (by simpa using h');simp only[sD,kW];rw[this,Bool.and_assoc]
theorem nI {α:Type} (f:α->α->Bool):∀{a b:List α} {j:Nat} {x y:α},a[j]?=some x->b[j]?=some y->f x y=false->kW f a b=false
 |[],b,j,x,y,h,_,_=>by simp at h
 |a::as_,[],j,x,y,_,h,_=>by simp at h
 |a::as_,b::bs_,0,x,y,h,h',e=>by simp at h h';subst h;subst h';simp[kW,e]
 |a::as_,b::bs_,j+1,x,y,h,h',e=>by
  rw[kW,nI f (a:=as_) (b:=bs_) (j:=j) (x:=x) (y:=y) (by simpa using h) (by simpa using h') e,qT]
theorem Eb {α:Type} (f:α->α->Bool):∀(a:List α),(∀x∈a,f x x=true)->kW f a a=true
 |[],_=>rfl
 |a::l,h=>by rw[kW,h a (by simp),Eb f l (fun x hx=>h x (by simp[hx]))];rfl
def iU {α:Type} (f:α->α->Bool) (a b:List α):Bool:=decide (a.length=b.length)&&kW f a b
theorem BV {α:Type} (f:α->α->Bool) (a:List α) (h:∀x∈a,f x x=true):iU f a a=true:=by unfold iU;rw[Eb f a h];simp
def kB (a b:ByteArray):Bool:=a.toList==b.toList
def oO (a b:sO):Bool:=kB a.name b.name&&((a.t==b.t)&&(a.tag==b.tag))
def jO (a b:iO):Bool:=kB a.name b.name&&((a.ty==b.ty)&&iU oO a.clock.l b.clock.l)
def nx (a b:iW):Bool:=kB a.name b.name&&iU kB a.tags.l b.tags.l
def mx (a b:oX):Bool:=iU kB a.left.l b.left.l&&a.right.same b.right
def mj (a b:ma):Bool:=(a.dst==b.dst)&&((a.res==b.res)&&a.cond.same b.cond)
mutual
def mw:StT->StT->Bool
 |.mk n l e _ _ a u v,.mk n' l' e' _ _ a' u' v'=>kB n n'&&(iU jO l.l l'.l&&(iU mx e.l e'.l&&((decide (a.length=a'.length)&&sx a a')&&(iU mj u.l u'.l&&iU mj v.l v'.l))))
def sq:List StT->List StT->Bool
 |[],_=>true
 |_::_,[]=>true
 |a::xs,b::ys=>mw a b&&sq xs ys
def lE:AuT->AuT->Bool
 |.mk _ _ l,.mk _ _ l'=>decide (l.length=l'.length)&&sq l l'
def sx:List AuT->List AuT->Bool
 |[],_=>true
 |_::_,[]=>true
 |a::xs,b::ys=>lE a b&&sx xs ys
end
theorem Cc:∀a b:List StT,sq a b=kW mw a b
 |[],_=>by rw[sq,kW]
 |_::_,[]=>by rw[sq,kW]
 |a::xs,b::ys=>by rw[sq,kW,Cc xs ys]
theorem Co:∀a b:List AuT,sx a b=kW lE a b
 |[],_=>by rw[sx,kW]
 |_::_,[]=>by rw[sx,kW]
 |a::xs,b::ys=>by rw[sx,kW,Co xs ys]
theorem KW (A:Option Addr) (c:Nat) (l:List StT) (A':Option Addr) (c':Nat) (l':List StT):lE (.mk A c l) (.mk A' c' l')=iU mw l l':=by rw[lE,Cc];rfl
theorem K9 (n:ByteArray) (l:nB iO) (e:nB oX) (A:Option Addr) (c:Nat) (a:List AuT) (u v:nB ma) (n':ByteArray) (l':nB iO) (e':nB oX) (A':Option Addr) (c':Nat) (a':List AuT) (u' v':nB ma):mw (.mk n l e A c a u v) (.mk n' l' e' A' c' a' u' v')=(kB n n'&&(iU jO l.l l'.l&&(iU mx e.l e'.l&&(iU lE a a'&&(iU mj u.l u'.l&&iU mj v.l v'.l))))):=by rw[mw,Co];rfl
def nu (a b:nh):Bool:=kB a.name b.name&&(iU jO a.ins.l b.ins.l&&(iU jO a.outs.l b.outs.l&&(iU jO a.locals.l b.locals.l&&(iU mx a.eqs.l b.eqs.l&&(iU lE a.autos.l b.autos.l&&(iU Tx.same a.assume.l b.assume.l&&iU Tx.same a.ensure.l b.ensure.l))))))
def FQ (a b:Il):Bool:=iU nx a.enums.l b.enums.l&&iU nu a.nodes.l b.nodes.l
theorem pS (a:ByteArray):kB a a=true:=by unfold kB;rw[beq_iff_eq]
theorem GU (a:sO):oO a a=true:=by unfold oO;rw[pS];simp
variable {S:Prop}
theorem Q6 (s1 s2:ByteArray) (t1 v1 t2 v2:Int) (w:World):(binOp BinOp.neq 178 (.agg #[s1,t1,v1]) (.agg #[s2,t2,v2])).run prog w=.ok (.bool (!((s1.toList==s2.toList)&&((t1==t2)&&(v1==v2))))) w:=by
 by_cases I:s1.toList=s2.toList<;>by_cases o:t1=t2<;>by_cases j:v1=v2<;>simp[go_sem,I,o,j]
theorem DH {w0:World} {A1 B1:Option Addr} {c1 d1:Nat} {xl yl:List ByteArray} (x:ir 1 sR w0 ⟨A1,c1,xl⟩) (y:ir 1 sR w0 ⟨B1,d1,yl⟩) (w:World) (aft:ik w0 w) :
  Calls prog 49 #[.slice A1 xl.length c1,.slice B1 yl.length d1] w fun e w'=>e=.returned (.bool (iU kB xl yl))/\ik w w':=by
 have XX:=iy x;have YY:=iy y;have a1:=x.len;have U:=y.len;simp only[]at a1 U;obtain⟨n,hn⟩:=jt (xl.length);obtain⟨m,hm⟩:=jt (yl.length);have HV:Hid (iU kB xl yl=(decide (n=m)&&kW kB xl yl)):=iy (by unfold iU;rw[hn,hm]);rw[hn]at a1⊢;rw[hm]at U⊢;by_cases a6:n=m
 ·subst a6
  go_in;go_wp2_with fail;go_loopw [13] (fun i wr=>∃j:Nat,j<=n/\i=.int .i64 (j:Nat)/\Hid (kW kB (xl.take j) (yl.take j)=true)/\ik w wr) (fun i _=>n-(intOf i).toNat)
  case atStart=>exact⟨0,iu,rfl,iy (by simp[kW]),iR⟩
  case round=>
  obtain⟨j,hj,rfl,HJ,ar⟩:=hrel;have a7:=ij aft ar;by_cases a':j<n
  ·have aa:(j:Int)<(n:Int):=iu
   obtain⟨b,p,u1,rfl,ad,R,hP⟩:=(XX.strs wr (k:=a7)).part (i:=j) (by show j<xl.length;omega);obtain⟨b2,p2,u2,rfl,ab,J,hQ⟩:=(YY.strs wr (k:=a7)).part (i:=j) (by show j<yl.length;omega);simp only[]at R J;have HT:Hid (kW kB (xl.take (j+1)) (yl.take (j+1))=kB u1 u2):=iB (by rw[oJ kB R.out J.out,HJ.out,xI]);have HF:Hid (kB u1 u2=false->kW kB xl yl=false):=iB fun h=>nI kB R J h
   obtain⟨s1,a_⟩:∃s,u1=s:=⟨_,rfl⟩;obtain⟨I,a8⟩:∃s,u2=s:=⟨_,rfl⟩;rw[a_]at HT HF hP;rw[a8]at HT HF hQ;have e0:wr.cell? ⟨b,p+j,none⟩=some (.string s1):=by have:=hP.1;rwa [yr]at this
   have g0:wr.cell? ⟨b2,p2+j,none⟩=some (.string I):=by have:=hQ.1;rwa [yr]at this
   obtain⟨q,hq⟩:∃q,(s1.toList==I.toList)=q:=⟨_,rfl⟩;have m5:(s1.toList != I.toList)=!q:=by unfold bne;rw[hq]
   unfold kB at HT HF;rw[hq]at HT HF;cases q with
   |true=>
    go_wp2_with fail;go_region;go_wp2;go_roundw
    case rel=>exact⟨j+1,by omega,by go_num,HT,ij ar inferInstance⟩
    case measure=>simp only[intOf];omega
   |false=>
   have o:Hid (iU kB xl yl=false):=iB (by rw[HV.out,show kW kB xl yl=false from HF.out rfl,qT]);go_wp2_with fail;go_region;go_wp2;go_ret;exact⟨iK (by rw[o.out]),ij ar iR⟩
  obtain rfl:j=n:=iu;have o:Hid (iU kB xl yl=true):=iy (by
   have h_:=HJ.out;rw[HV.out];rw[<- hn,pf,hn,<- hm,pf]at h_;rw[h_];simp)
  go_wp2;go_ret;exact⟨iK (by rw[o.out]),ar⟩
 have o:Hid (iU kB xl yl=false):=iy (by rw[HV.out,decide_eq_false a6,qu]);go_in;go_wp2;go_ret;exact⟨iK (by rw[o.out]),iR⟩
theorem Ml {w0:World} {A1 B1:Option Addr} {c1 d1:Nat} {xl yl:List sO} (x:ir 3 KJ w0 ⟨A1,c1,xl⟩) (y:ir 3 KJ w0 ⟨B1,d1,yl⟩) (w:World) (aft:ik w0 w) :
  Calls prog 94 #[.slice A1 xl.length c1,.slice B1 yl.length d1] w fun e w'=>e=.returned (.bool (iU oO xl yl))/\ik w w':=by
 have XX:=iy x;have YY:=iy y;have a7:=x.len;have a6:=y.len;simp only[]at a7 a6;obtain⟨n,hn⟩:=jt (xl.length);obtain⟨m,hm⟩:=jt (yl.length);have HV:Hid (iU oO xl yl=(decide (n=m)&&kW oO xl yl)):=iy (by unfold iU;rw[hn,hm]);rw[hn]at a7⊢;rw[hm]at a6⊢;by_cases a8:n=m
 ·subst a8
  go_in;go_wp2_with fail;go_loopw [13] (fun i wr=>∃j:Nat,j<=n/\i=.int .i64 (j:Nat)/\Hid (kW oO (xl.take j) (yl.take j)=true)/\ik w wr) (fun i _=>n-(intOf i).toNat)
  case atStart=>exact⟨0,iu,rfl,iy (by simp[kW]),iR⟩
  case round=>
  obtain⟨j,hj,rfl,HJ,ar⟩:=hrel;have a_:=ij aft ar;by_cases aa:j<n
  ·have ab:(j:Int)<(n:Int):=iu
   obtain⟨b,p,u1,rfl,ae,a1,hP⟩:=(XX.Sq wr (k:=a_)).part (i:=j) (by show j<xl.length;omega);obtain⟨b2,p2,u2,rfl,ad,U,hQ⟩:=(YY.Sq wr (k:=a_)).part (i:=j) (by show j<yl.length;omega);simp only[]at a1 U;have HT:Hid (kW oO (xl.take (j+1)) (yl.take (j+1))=oO u1 u2):=iy (by rw[oJ oO a1.out U.out,HJ.out,xI]);have HF:Hid (oO u1 u2=false->kW oO xl yl=false):=iy fun h=>nI oO a1 U h
   obtain⟨s1,t1,v1⟩:=u1;obtain⟨R,J,I⟩:=u2;obtain⟨_,e0,e1,e2,_⟩:=hP;obtain⟨_,g0,g1,g2,_⟩:=hQ;simp only[]at e0 e1 e2 g0 g1 g2;obtain⟨q,hq⟩:=jt (oO ⟨s1,t1,v1⟩ ⟨R,J,I⟩);have hb:=fun W=>Q6 s1 R t1 v1 J I W
   have a':((s1.toList==R.toList)&&((t1==J)&&(v1==I)))=q:=hq;simp only[a']at hb;rw[hq]at HT HF;cases q with
   |true=>
    go_wp2_with fail;go_region;go_wp2;go_roundw
    case rel=>exact⟨j+1,iu,by go_num,HT,ij ar iR⟩
    case measure=>simp only[intOf];omega
   |false=>
   have o:Hid (iU oO xl yl=false):=iy (by rw[HV.out,HF.out rfl,qT]);go_wp2_with fail;go_region;go_wp2;go_ret;exact⟨iK (by rw[o.out]),ij ar iR⟩
  obtain rfl:j=n:=iu;have o:Hid (iU oO xl yl=true):=iy (by
   have h_:=HJ.out;rw[HV.out];rw[<- hn,pf,hn,<- hm,pf]at h_;rw[h_];simp)
  go_wp2;go_ret;exact⟨iK (by rw[o.out]),ar⟩
 have o:Hid (iU oO xl yl=false):=iy (by rw[HV.out,decide_eq_false a8,qu]);go_in;go_wp2;go_ret;exact⟨iK (by rw[o.out]),iR⟩
end
abbrev zF:=@PE.Ss
abbrev CS:=@PE.RD
abbrev AO:=@iP.Tr
end Go.Proofs.YtnigblndonocfaaGreatDoor
