/- A part of the proof. -/
import Derived.Test.YtnigblndonocfaaGreatDoorWXp
import Derived.Test.YtnigblndonocfaaGreatDoorSLk
import Derived.Lib.Builder
import Derived.Lib.Walk
import Derived.Lib.UnsafeStr
import Derived.Lib.AppendStr
import Derived.Laws.Externs
import Derived.Shelf.Strings.BuilderX
import Derived.StillTail
import Derived.Deep.Quiet
set_option linter.unusedVariables false
set_option linter.unusedSimpArgs false
namespace Go.Proofs.YtnigblndonocfaaGreatDoor
set_option maxRecDepth 100000
set_option maxHeartbeats 3200000
open Go.Proofs.Tryz
open Go.RowKit Go.BigFrame
section
def El (L:List (List Pc)):List ByteArray:=L.map fun p=>lG (iY p)
theorem zI (L:List (List Pc)) (sep:List Pc):Lib.join ((El L).map (·.data.toList)) (iY sep)=iY (mq sep L):=by
 rw[wV];congr 1;unfold El;rw[xZ];exact IL fun a _=>Cd _
theorem H0 {L:List (List Pc)} {k:Nat} {p:List Pc} (hk:L[k]?=some p) {x:List UInt8} (hx:iY p=x):G0 (El (L.take k))++[.string (lG x)]=G0 (El (L.take (k+1))):=by
 obtain⟨j,o⟩:=rq.1 hk;rw[<- hx,<- o,IX j];unfold G0 El;rw[s_,s_];rfl
def Lk (el:List iW) (o:sO):List Pc:=FX el o.t o.tag o.name
def o_ (el:List iW) (l:List sO):List Pc:=mq [.sp 32] (l.map (Lk el))
def F6 (el:List iW) (t:Int):Pc:=
 if t=1 then mB [98,111,111,108] else if t=2 then mB [105,110,116] else match el[(t-3).toNat]? with | some u=>rM u.name | none=>.sp 32
def pv (el:List iW) (d:iO):List Pc:=rM d.name::mf [58]::.sp 32::F6 el d.ty::(if d.clock.l.length=0 then [] else .sp 32::o_ el d.clock.l)
def kO (el:List iW) (l:List iO):List Pc:=mq [mf [59],.sp 32] (l.map (pv el))
theorem Qu {el:List iW} {t v:Int} (h2:t≠2) (h:nq el t v=true):qS el t:=by
 refine yX fun j=>?_
 unfold nq at h;rw[iV h2,j]at h;simp only[mT,decide_eq_true_eq]at h;omega
theorem jI {a b:Int} (h:jD a b=0):a=0/\b=0:=by
 unfold jD at h;by_cases j:a=0
 ·rw[iG j]at h;exact⟨j,h⟩
 rw[iV j]at h;exact absurd h j
theorem nJ {b:Bool} {e:Int} (he:e≠0) (h:iX b e=0):b=true:=by
 unfold iX at h;cases b with
 |true=>rfl
 |false=>simp at h;exact absurd h he
theorem jd {α:Type} {f:α->Int}:∀{l:List α},iw f l=0->∀x∈l,f x=0
 |[],_,x,h=>by simp at h
 |a::l,h0,x,h=>by
  rw[iw]at h0;obtain⟨h1,h2⟩:=jI h0;rcases uW.1 h with rfl | h
  ·exact h1
  exact jd h2 x h
theorem Fb {el:List iW} {o:sO} (h:vR el o=0):kT o.name=true/\o.t≠2/\qS el o.t/\nq el o.t o.tag=true:=by
 unfold vR at h;obtain⟨R,J⟩:=jI h;have I:=nJ iI R;have j:=nJ iI J;simp only[mT,IU,beq_eq_false_iff_ne]at j;exact⟨I,j.1,Qu j.1 j.2,j.2⟩
theorem OC {el:List iW} (hT:mL el) {o:sO} (h:vR el o=0):(iY (Lk el o)).length<=100:=by
 obtain⟨J,h2,h3,I⟩:=Fb h;have U:=jM J;have R:=xw hT I;have j:=jr o.name;unfold Lk FX;rw[kH,jn,iC,jl,lQ,jl,ja];simp;omega
theorem za {m s:Nat} {sep:List Pc} (hs:(iY sep).length=s):∀{l:List (List Pc)},(∀x∈l,(iY x).length<=m)->(iY (mq sep l)).length<=l.length*(m+s)
 |[],_=>by rw[mq,ja];simp
 |[a],h=>by rw[mq];have:=h a (by simp);simp;omega
 |a::b::l,h=>by
  rw[mq,iC,iC];have h1:=h a (by simp);have h2:=za hs (l:=b::l) fun x hx=>h x (qj _ hx)
  simp only[mo,py,Nat.add_mul]at h2⊢;omega
theorem yC {el:List iW} (hT:mL el) {l:List sO} (h:iw (vR el) l=0) (h4:l.length<=4):(iY (o_ el l)).length<=404:=by
 have J:(iY (o_ el l)).length<=(l.map (Lk el)).length*(100+1):=za (by decide) fun x j=>by
  obtain⟨o,I,rfl⟩:=yQ.1 j;exact OC hT (jd h o I)
 rw[pE]at J;omega
section
variable {w0:World} {eA:Option Addr} {ec:Nat} {el:List iW} {mb:Nat}
theorem L9 (hS:ID w0 eA ec el) (hT:mL el) {A:Option Addr} {c:Nat} {l:List sO} (hR:ir 3 KJ w0 ⟨A,c,l⟩) (hE:iw (vR el) l=0) (h4:l.length<=4) (w:World) (hw:ik w0 w) :
  Calls prog 86 #[.agg #[.slice eA el.length ec,.map (some mb)],.slice A l.length c] w fun e w'=>e=.returned (.string (lG (iY (o_ el l))))/\∃y,w'=w.more y:=by
 have R:=yC hT hE h4;obtain⟨L,hL⟩:=jt (l.map (Lk el));have a_:L.length=l.length:=by rw[<- hL,pE]
 unfold o_ at R⊢;rw[hL]at R⊢;have HL:=iy hL;have j:=iB a_;have HJ:=iB (show (Lib.join ((El L).map (·.data.toList)) (⟨#[32]⟩:ByteArray).data.toList).length<=140737488355328 from by rw[show ((⟨#[32]⟩:ByteArray).data.toList)=iY [.sp 32] from rfl,zI];omega);obtain⟨J,hJ⟩:∃J,lG (iY (mq [.sp 32] L))=J:=⟨_,rfl⟩;rw[hJ];have ab:=iB hJ;go_in;go_wp2_with fail;obtain⟨W1,a1⟩:∃W1,W1=(w.alloc (.cells #[.slice eA el.length ec,.map (some mb)] 47)):=⟨_,rfl⟩;go_loopw [5,10] (fun v i wr=>∃(k:Nat) (I:Option Addr) (o:Nat),k<=l.length/\i=.int .i64 k/\v=.slice I k o/\Hid (wr.ownsRow W1.heap.size 9 1 (.slice I k o) k (G0 (El (L.take k))))/\Hid (∃y,wr=W1.more y)) (fun _ i _=>l.length-(intOf i).toNat)
 case atStart=>exact⟨0,none,0,by omega,rfl,rfl,FL _ _ _ _,by show ∃y,_=W1.more y;rw[a1];exact jP _ _⟩
 case round=>
 obtain⟨k,I,o,hk,rfl,rfl,HO,HW⟩:=hrel;obtain⟨y0,rfl⟩:=HW.out;subst a1;by_cases a7:k<l.length
 ·obtain⟨b,p,⟨on,ot,og⟩,a6,ad,HY,hP⟩:=(hR.Sq ((w.alloc (.cells #[.slice eA el.length ec,.map (some mb)] 47)).more y0) (k:=ij hw inferInstance)).part (i:=k) a7
  simp only[]at a6;subst a6;have a8:(k:Int)<(l.length:Int):=by omega
  have d0:=hP.c0;have d1:=hP.c1;have d2:=hP.c2;have he:=jd hE _ (om HY.out);obtain⟨i1,i2,i3,i4⟩:=Fb he;have i5:=jM i1;have i6:=xw hT i4;simp only[]at d0 d1 d2 i1 i2 i3 i4 i5 i6;have a':L[k]?=some (Lk el ⟨on,ot,og⟩):=by rw[<- HL.out,JL,HY.out];rfl
  obtain⟨x,hx⟩:∃x,iY (Lk el ⟨on,ot,og⟩)=x:=⟨_,rfl⟩;have HT:=iB (H0 a' hx);have HC:=iB (fun U (hU:ik w U)=>yH (mb:=mb) hS U (ij hw hU) ot og on (by omega) i3 i4 (by omega));rw[show iY (FX el ot og on)=x from hx]at HC;go_wp2_with fail;refine (HC _ inferInstance).mono ?_;rintro e V ⟨rfl,hy⟩;have aV:ik (w.alloc (.cells #[.slice eA el.length ec,.map (some mb)] 47)) V:=ny hy inferInstance;have aa:Hid (V.ownsRow (w.alloc (.cells #[.slice eA el.length ec,.map (some mb)] 47)).heap.size 9 1 (.slice I k o) k (G0 (El (L.take k)))):=nF HO (ny hy inferInstance);go_wp2_with (at_builtin;refine mh (w0:=w.alloc (.cells #[.slice eA el.length ec,.map (some mb)] 47)) V rfl (.tmp 14) (.tmp 18) 55 rfl 9 _ 16 underlying55 Cr rfl (.slice I k o) k _ (.string (lG x)) rfl aa rfl rfl (by omega) (by omega) ?_;intro v1 w4 hown1 haft1;replace hown1:=iB hown1)
  obtain⟨A1,c1,rfl,_,_⟩:=ji hown1.out;go_roundw
  case rel=>exact⟨k+1,A1,c1,iu,by go_num,rfl,by show World.ownsRow _ _ _ _ _ _ _;rw[<- HT.out];exact hown1,jP _ _⟩
  case measure=>simp[intOf];omega
 obtain rfl:k=l.length:=iu;have a8:¬((l.length:Int)<(l.length:Int)):=iu;have HS:=iy (show qi ((w.alloc (.cells #[.slice eA el.length ec,.map (some mb)] 47)).more y0) I o (El L) from by
  have:=qi.so HO (by unfold El;rw[pE,Fi,j.out];omega) iu;rwa [Dn (by rw[j.out];omega)]at this)
 have HC:=iy (fun U hU=>HS.join ⟨#[32]⟩ HJ U hU);rw[show (El L).length=l.length by unfold El;rw[pE,j.out],show ((⟨#[32]⟩:ByteArray).data.toList)=iY [.sp 32] from rfl,zI,ab.out]at HC;generalize l.length=n9 at *
 go_wp2_with fail;refine (HC _ iR).mono ?_;rintro e w' ⟨rfl,y,rfl⟩;go_wp2;go_ret;exact⟨rfl,jP _ _⟩
theorem Pg {el:List iW} {t:Int} (h:qS el t):Rz el t=lG (iY [F6 el t]):=by
 unfold Rz F6;by_cases o:t=1
 ·rw[iG o,iG o];rfl
 rw[iV o,iV o];by_cases j:t=2
 ·rw[iG j,iG j];rfl
 rw[iV j,iV j];have I:(t-3).toNat<el.length:=by
  rcases h with h | h | h
  ·exact absurd h o
  ·exact absurd h j
  omega
 rw[qn I];show el[(t-3).toNat].name=lG (iY [rM el[(t-3).toNat].name])
 rw[lQ,ja,oV,qd]
def pB (el:List iW):Prop:=∀u∈el,u.name.size<=40
theorem Nv {el:List iW} (hN:pB el) (t:Int):(iY [F6 el t]).length<=40:=by
 unfold F6;by_cases o:t=1
 ·rw[iG o];decide
 rw[iV o];by_cases j:t=2
 ·rw[iG j];decide
 rw[iV j];cases hu:el[(t-3).toNat]? with
 |none=>show (iY [.sp 32]).length<=40;decide
 |some u=>
 show (iY [rM u.name]).length<=40
 rw[lQ,ja,oV,jr];exact hN u (om hu)
theorem yL {el:List iW} {port:Bool} {d:iO} (h:jN el port d=0):kT d.name=true/\qS el d.ty/\d.clock.l.length<=4/\iw (vR el) d.clock.l=0:=by
 unfold jN at h;obtain⟨J,h⟩:=jI h;obtain⟨o,h⟩:=jI h;obtain⟨R,h⟩:=jI h;obtain⟨j,I⟩:=jI h;have o:=nJ iI o;have j:=nJ iI j;simp only[decide_eq_true_eq]at o j;exact⟨nJ iI J,yX iu,iu,I⟩
theorem KX {el:List iW} (hT:mL el) (hN:pB el) {port:Bool} {d:iO} (h:jN el port d=0):(iY (pv el d)).length<=500:=by
 obtain⟨J,h2,I,o⟩:=yL h;have h5:=jM J;have U:=Nv hN d.ty;have R:=yC hT o I;have j:=jr d.name;unfold pv;rw[lQ,jl,jn,show F6 el d.ty::(if d.clock.l.length=0 then [] else .sp 32::o_ el d.clock.l)=[F6 el d.ty]++(if d.clock.l.length=0 then [] else .sp 32::o_ el d.clock.l) from rfl,iC];split
 ·simp[ja];omega
 rw[jn];simp;omega
theorem qC {el:List iW} (hT:mL el) (hN:pB el) {port:Bool} {l:List iO} (h:nN el port l=0) (h4:l.length<=1000):(iY (kO el l)).length<=502000:=by
 have J:(iY (kO el l)).length<=(l.map (pv el)).length*(500+2):=za (by decide) fun x j=>by
  obtain⟨o,I,rfl⟩:=yQ.1 j;exact KX hT hN (jd h o I)
 rw[pE]at J;omega
theorem Al (hS:ID w0 eA ec el) (hT:mL el) (hN:pB el) {A:Option Addr} {c:Nat} {l:List iO} {port:Bool} (hR:ir 3 jG w0 ⟨A,c,l⟩) (hE:nN el port l=0) (h4:l.length<=1000) (w:World) (hw:ik w0 w) :
  Calls prog 45 #[.agg #[.slice eA el.length ec,.map (some mb)],.slice A l.length c] w fun e w'=>e=.returned (.string (lG (iY (kO el l))))/\∃y,w'=w.more y:=by
 have a1:=qC hT hN hE h4;obtain⟨L,hL⟩:=jt (l.map (pv el));have ab:L.length=l.length:=by rw[<- hL,pE]
 unfold kO at a1⊢;rw[hL]at a1⊢;have HL:=iy hL;have a_:=iy ab;have HJ:=iy (show (Lib.join ((El L).map (·.data.toList)) (⟨#[59,32]⟩:ByteArray).data.toList).length<=140737488355328 from by rw[show ((⟨#[59,32]⟩:ByteArray).data.toList)=iY [mf [59],.sp 32] from rfl,zI];omega);obtain⟨J,hJ⟩:=jt (lG (iY (mq [mf [59],.sp 32] L)));rw[hJ];have ai:=iy hJ;clear hL ab a1 hJ;go_in;go_wp2_with fail;obtain⟨W1,aa⟩:∃W1,W1=(w.alloc (.cells #[.slice eA el.length ec,.map (some mb)] 47)):=⟨_,rfl⟩;go_loopw [5,13] (fun v i wr=>∃(k:Nat) (A':Option Addr) (c':Nat),k<=l.length/\i=.int .i64 k/\v=.slice A' k c'/\Hid (wr.ownsRow W1.heap.size 9 1 (.slice A' k c') k (G0 (El (L.take k))))/\Hid (∃y,wr=W1.more y)) (fun _ i _=>l.length-(intOf i).toNat)
 case atStart=>exact⟨0,none,0,iu,rfl,rfl,FL _ _ _ _,by show ∃y,_=W1.more y;rw[aa];exact jP _ _⟩
 case round=>
 obtain⟨k,A',c',hk,rfl,rfl,HO,HW⟩:=hrel;obtain⟨y0,rfl⟩:=HW.out;subst aa;clear HW;by_cases ag:k<l.length
 ·obtain⟨b,p,⟨dn,o,⟨dA,dc,dl⟩⟩,ad,aj,HY,hP⟩:=(hR.decls ((w.alloc (.cells #[.slice eA el.length ec,.map (some mb)] 47)).more y0) (k:=ij hw iR)).part (i:=k) ag
  simp only[]at ad;subst ad;have ah:(k:Int)<(l.length:Int):=iu;have d0:=hP.c0;have d1:=hP.c1;have d2:=hP.c2;have R:=hP.cl;have he:=jd hE _ (om HY.out);obtain⟨i1,i2,i3,i4⟩:=yL he;have i5:=jM i1;have i6:=Nv hN o;have i7:=Pg i2;have i8:=yC hT i4 i3;simp only[]at d0 d1 d2 R i1 i2 i3 i4 i5 i6 i7 i8;have a7:L[k]?=some (pv el ⟨dn,o,⟨dA,dc,dl⟩⟩):=by rw[<- HL.out,JL,HY.out];rfl
  obtain⟨x,hx⟩:=jt (iY (pv el ⟨dn,o,⟨dA,dc,dl⟩⟩));have HT:=iy (H0 a7 hx);have I:=iy (fun U (hU:ik w U)=>If hS.ens U (ij hw hU) o i2);rw[i7]at I;have a':=jr dn;obtain⟨S1,e1,g1⟩:=jh (A:=dn) (B:=⟨#[58,32]⟩) (b:=[58,32]) (qd dn).symm rfl (by simp;omega);obtain⟨S2,e2,g2⟩:=jh (B:=lG (iY [F6 el o])) e1 rfl (by simp;omega);by_cases a6:dl.length=0
  ·have j:lG x=S2:=by
    rw[<- hx,e2];unfold pv;rw[iG a6,lQ,jl,jn];simp
   rw[j]at HT;rw[a6]at d2;generalize iY [F6 el o]=z at I g2;clear hR hE HY hP he i1 i2 i3 i4 i5 i6 i7 i8 a7 hx j hS hT hN R e1 e2 a';go_wp2_with fail;refine (I.out _ iR).mono ?_;rintro e w' ⟨rfl,y,rfl⟩;have a8:Hid ((((((w.alloc (.cells #[.slice eA el.length ec,.map (some mb)] 47)).more y0).alloc (.cells #[dn,o,.slice dA 0 dc] 77)).more y)).ownsRow (w.alloc (.cells #[.slice eA el.length ec,.map (some mb)] 47)).heap.size 9 1 (.slice A' k c') k (G0 (El (L.take k)))):=nF HO.out inferInstance;clear HO;go_wp2_with (at_builtin;refine mh (w0:=(w.alloc (.cells #[.slice eA el.length ec,.map (some mb)] 47))) ((((w.alloc (.cells #[.slice eA el.length ec,.map (some mb)] 47)).more y0).alloc (.cells #[dn,o,.slice dA 0 dc] 77)).more y) rfl (.tmp 41) (.tmp 43) 55 rfl 9 _ 16 underlying55 Cr rfl (.slice A' k c') k _ (.string S2) rfl a8.out rfl rfl (by omega) (by omega) ?_;intro v1 w4 hown1 haft1;replace hown1:=iB hown1)
   obtain⟨A1,c1,rfl,_,_⟩:=ji hown1.out;go_roundw
   case rel=>exact⟨k+1,A1,c1,by omega,by go_num,rfl,by show World.ownsRow _ _ _ _ _ _ _;rw[<- HT.out];exact hown1.out,jP _ _⟩
   case measure=>simp[intOf];omega
  have j:∃S4,lG x=S4/\∃S3,(∀w:World,(Op.stringOp .add ⟨#[32]⟩ (lG (iY (o_ el dl)))).run prog w=.ok (.string S3) w)/\∀w:World,(Op.stringOp .add S2 S3).run prog w=.ok (.string S4) w:=by
   obtain⟨S3,e3,g3⟩:=jh (A:=⟨#[32]⟩) (a:=[32]) (B:=lG (iY (o_ el dl))) rfl rfl (by simp;omega);obtain⟨S4,e4,g4⟩:=jh e2 e3 (by simp;omega);refine⟨S4,?_,S3,g3,g4⟩;rw[<- hx,e4];unfold pv;rw[iV a6,lQ,jl,jn,show ∀q:List Pc,F6 el o::q=[F6 el o]++q from fun _=>rfl,iC,jn];simp
  obtain⟨S4,j,S3,g3,g4⟩:=j;rw[j]at HT;have ae:ID ((w.alloc (.cells #[.slice eA el.length ec,.map (some mb)] 47)).more y0) eA ec el:=hS.here _ (ij hw inferInstance);have af:=iB (fun U (hU:ik ((w.alloc (.cells #[.slice eA el.length ec,.map (some mb)] 47)).more y0) U)=>L9 (mb:=mb) ae hT R i4 i3 U hU);generalize iY [F6 el o]=z at I g2;generalize lG (iY (o_ el dl))=ck at af g3;generalize dl.length=n9 at *
  have ak:(0:Int)<(n9:Int):=by omega
  clear hR hE HY hP he i1 i2 i3 i4 i5 i6 i7 i8 a7 hx j hS hT hN R e1 e2 a' ae;go_wp2_with fail;refine (I.out _ inferInstance).mono ?_;rintro e w' ⟨rfl,y,rfl⟩;go_wp2_with fail;refine (af.out _ inferInstance).mono ?_;rintro e w' ⟨rfl,y2,rfl⟩;have a8:Hid (((((((w.alloc (.cells #[.slice eA el.length ec,.map (some mb)] 47)).more y0).alloc (.cells #[dn,o,.slice dA n9 dc] 77)).more y).more y2)).ownsRow (w.alloc (.cells #[.slice eA el.length ec,.map (some mb)] 47)).heap.size 9 1 (.slice A' k c') k (G0 (El (L.take k)))):=nF HO inferInstance;go_wp2_with (at_builtin;refine mh (w0:=(w.alloc (.cells #[.slice eA el.length ec,.map (some mb)] 47))) (((((w.alloc (.cells #[.slice eA el.length ec,.map (some mb)] 47)).more y0).alloc (.cells #[dn,o,.slice dA n9 dc] 77)).more y).more y2) rfl (.tmp 41) (.tmp 43) 55 rfl 9 _ 16 underlying55 Cr rfl (.slice A' k c') k _ (.string S4) rfl a8 rfl rfl iu iu ?_;intro v1 w4 hown1 haft1;replace hown1:=iy hown1)
  obtain⟨A1,c1,rfl,_,_⟩:=ji hown1.out;go_roundw
  case rel=>exact⟨k+1,A1,c1,iu,by go_num,rfl,by show World.ownsRow _ _ _ _ _ _ _;rw[<- HT.out];exact hown1,jP _ _⟩
  case measure=>simp[intOf];omega
 obtain rfl:k=l.length:=iu;have ah:¬((l.length:Int)<(l.length:Int)):=iu;have HS:=iy (show qi ((w.alloc (.cells #[.slice eA el.length ec,.map (some mb)] 47)).more y0) A' c' (El L) from by
  have:=qi.so HO (by unfold El;rw[pE,Fi,a_.out];omega) iu;rwa [Dn (by rw[a_.out];omega)]at this)
 have HC:=iy (fun U hU=>HS.join ⟨#[59,32]⟩ HJ U hU);rw[show (El L).length=l.length by unfold El;rw[pE,a_.out],show ((⟨#[59,32]⟩:ByteArray).data.toList)=iY [mf [59],.sp 32] from rfl,zI,ai.out]at HC;generalize l.length=n9 at *
 go_wp2_with fail;refine (HC _ iR).mono ?_;rintro e w' ⟨rfl,y,rfl⟩;go_wp2;go_ret;exact⟨rfl,jP _ _⟩
end
end
section
theorem Mk:(prog.info? 5).map (fun i=>(i.zero,i.size,i.bytes))=some (some (.int .u8 0),1,1):=by kernel_rfl
theorem P9:(prog.info? 52).map (·.size)=some 2:=by kernel_rfl
theorem RV:liesAt prog prog.depth 54 (4 / prog.cellsOf 54) 2 52 1=true:=by kernel_rfl
def rR (w:World) (g:Nat):Option Nat:=(w.cell? ⟨g,3,none⟩).bind Value.ownBlock
structure vP (g:Nat) (w w':World):Prop where
 os:w'.os=w.os
 tape:w'.tape=w.tape
 output:w'.output=w.output
 size:w.heap.size<=w'.heap.size
 keep:∀k,k<w.heap.size->k≠g->rR w g≠some k->w'.heap[k]?=w.heap[k]?
 buf:∀k,rR w' g=some k->rR w g=some k\/w.heap.size<=k
theorem vP.refl (g:Nat) (w:World):vP g w w:=⟨rfl,rfl,rfl,js _,fun _ _ _ _=>rfl,fun k h=>.inl h⟩
theorem vP.trans {g:Nat} {w w1 w2:World} (h:vP g w w1) (h':vP g w1 w2):vP g w w2:=by
 refine⟨h'.os.trans h.os,h'.tape.trans h.tape,h'.output.trans h.output,jW h.size h'.size,fun k j o I=>?_,fun k j=>?_⟩
 ·refine (h'.keep k (rO j h.size) o fun e=>?_).trans (h.keep k j o I)
  rcases h.buf k e with e | e
  ·exact I e
  omega
 rcases h'.buf k j with e | e
 ·exact h.buf k e
 exact .inr (jW h.size e)
theorem vP.rJ {g:Nat} {w w':World} (h:ik w w') (hg:g<w.heap.size):vP g w w':=
 ⟨h.below.os,h.below.tape,h.below.output,h.below.size,fun k hk _ _=>h.below.block k hk,fun k hk=>.inl (by unfold rR at hk⊢;rwa [show w'.cell? ⟨g,3,none⟩=w.cell? ⟨g,3,none⟩ from h.below.cell (p:=⟨g,3,none⟩) hg]at hk)⟩
structure RA (g:Nat) (w:World) (k:Nat):Prop where
 lt:k<w.heap.size
 ne:k≠g
 nb:rR w g≠some k
theorem RA.Dh {g k:Nat} {w w':World} (h:RA g w k) (s:vP g w w'):RA g w' k:=
 ⟨rO h.lt s.size,h.ne,fun e=>by
  rcases s.buf k e with e | e
  ·exact h.nb e
  have:=h.lt;omega⟩
theorem RA.blk {g k:Nat} {w w':World} {T:TypeId} {cs:Array Value} (h:RA g w k) (s:vP g w w') (b:iP w k T cs):iP w' k T cs:=(s.keep k h.lt h.ne h.nb).trans b
structure Ln (B:World) (g:Nat) (eA:Option Addr) (n ec mb:Nat) (w:World) (l:List UInt8):Prop where
 aft:ik B w
 hg:B.heap.size<=g
 st:∃(p A:Option Addr) (c:Nat),(p=none\/p=some ⟨g,2,none⟩)/\iP w g 54 #[.slice eA n ec,.map (some mb),.pointer p,.slice A l.length c]/\w.ownsRow (g+1) 5 1 (.slice A l.length c) l.length (Lib.byteCells l)/\(l=[]->A=none/\c=0)
section
variable {B:World} {g:Nat} {eA:Option Addr} {n ec mb:Nat} {w w':World} {l:List UInt8}
theorem Ln.lt (h:Ln B g eA n ec mb w l):g<w.heap.size:=by
 obtain⟨p,A,c,_,j,_⟩:=h.st;exact j.lt
theorem Ln.buf (h:Ln B g eA n ec mb w l) {k:Nat} (e:rR w g=some k):g<k/\k<w.heap.size:=by
 obtain⟨p,A,c,_,o,j,-⟩:=h.st;unfold rR at e;rw[o.cell 3]at e;have:=j.lt k e;exact⟨iu,this.2⟩
theorem Ln.after (h:Ln B g eA n ec mb w l) (a:ik w w'):Ln B g eA n ec mb w' l:=by
 obtain⟨p,A,c,hp,I,o,j⟩:=h.st;exact⟨ij h.aft a,h.hg,p,A,c,hp,I.after,nF o a,j⟩
theorem Ln.cells (h:Ln B g eA n ec mb w l):w.cell? g=some (.slice eA n ec)/\w.cell? ⟨g,1,none⟩=some (.map (some mb)):=by
 obtain⟨p,A,c,hp,j,o,-⟩:=h.st;exact⟨by rw[j.cell];rfl,by rw[j.cell];rfl⟩
theorem Ln.loc (h:Ln B g eA n ec mb w l) {k:Nat} (a:ik w w') (h1:w.heap.size<=k) (h2:k<w'.heap.size):RA g w' k:=by
 have:=h.lt;refine⟨h2,iu,fun e=>?_⟩;have j:=(vP.rJ a h.lt).buf k e;rcases j with j | j
 ·have:=(h.buf j).2;omega
 obtain⟨p,A,c,hp,hb,ho,-⟩:=(h.after a).st;unfold rR at e;obtain⟨U,A',c',o,J,I,-⟩:=h.st;have R:=a.below.cell (p:=⟨g,3,none⟩) h.lt;rw[R]at e;have:=(h.buf (k:=k) (by unfold rR;exact e)).2;omega
end
theorem Rp (s:ByteArray):s.data.toList.length=s.size:=rfl
theorem GQ (s:ByteArray):Lib.strCells s=Lib.byteCells s.data.toList:=rfl
section
variable {P:Program} {w:World}
theorem zq {ops:Array Oper} {rest:List Oper} {o:Oper} {a:Act} {Q:Exit->Act->World->Prop} (hgd:o.guard=none) (sl x:Operand) (t u:TypeId)
  (ho:o.op=.call { callee:=.builtin .append,args:=#[sl,x],argTypes:=#[t,u] })
  (base:Nat) (e:TypeId) (i:TypeInfo) (ht:P.underlying t=some (.slice e)) (hu:P.underlying u=some .string) (hi:P.info? e=some i) (hz:i.zero=some (.int .u8 0))
  (hsize:i.size=1) (hby:i.bytes=1)
  (v:Value) (n:Nat) (xs:List Value) (hs:a.eval sl=v) (hown:w.ownsRow base e 1 v n xs) (s:ByteArray) (hx:a.eval x=.string s)
  (hbytes:n+s.size<=140737488355328) (hbase:base<=w.heap.size)
  (h:∀v' w',w'.ownsRow base e 1 v' (n+s.size) (xs++Lib.strCells s)->w.grownBy w' v.ownBlock->v'.ownBlock=v.ownBlock\/v'.ownBlock=some w.heap.size->(v=.slice none 0 0->s.size=0->v'=.slice none 0 0)->wpList P ops Q rest (a.put o.dst v') w'):wpList P ops Q (o::rest) a w:=by
 obtain⟨v',w',J,h2,h3,h4⟩:=Lib.run_append_own_string (P:=P) w base t u o.type e i ht hu hi hz hsize hby v n xs hown s (by unfold maxLen;omega) hbytes hbase;have hb:v'.ownBlock=v.ownBlock\/v'.ownBlock=some w.heap.size:=by
  have a1:xs.length=n:=by simpa using hown.1
  rcases hown.2 with⟨rfl,rfl⟩ | ⟨g,cap,cur,rfl,hbg,hg,hnc,hcm,hcs,htake⟩
  ·by_cases hm:s.size=0
   ·exact .inl (by rw[h4.2 ⟨rfl,hm⟩])
   have j:=run_append_nil_string (P:=P) w t u o.type e i (.int .u8 0) ht hu hi hz s iu iu (by rw[hby];omega);rw[j]at J;injection J with R U
   exact .inr (by rw[<- R];rfl)
  by_cases I:n+s.size<=cap
  ·have j:=Lib.run_append_room_string (P:=P) w t u o.type e i ht hu hi hsize g n cap cur hg s I iu
   rw[j]at J;injection J with R U
   exact .inl (by rw[<- R];rfl)
  have j:=Lib.run_append_grow_string (P:=P) w t u o.type e i (.int .u8 0) ht hu hi hz ⟨g,0,none⟩ n cap xs (by rw[hsize,yr];exact a1) (hown.cells (g:=g) rfl) s iu iu (by rw[hby];exact growslice_fits iu iu);rw[j]at J;injection J with R U
  exact .inr (by rw[<- R];rfl)
 refine wpList_plain hgd fun K hK=>?_
 unfold Oper.wp execOp;simp only[ho,resolve,invoke,builtin,Sem.run_bind,Sem.run_pure,Result.andThen_ok,List.map_toArray,mJ,tW,hs,hx,J];exact hK _ _ (h v' w' h2 h3 hb fun R U=>h4.2 ⟨R,U⟩)
end
theorem MZ (g:Nat) (w:World) (h0:w.cell? ⟨g,2,none⟩=some (.pointer (some ⟨g,2,none⟩))) :
  Calls prog 80 #[.pointer (some ⟨g,2,none⟩)] w fun e w'=>e=.returned (.tuple #[])/\w'=w:=by
 obtain⟨j,o,_⟩:=Option.map_eq_some_iff.1 P9;go_in;go_wp2;rw[Lib.run_neq_ptr_same w _ underlying49 o];go_wp2;go_end0;exact⟨rfl,rfl⟩
theorem LJ (g:Nat) (w:World) (h0:w.cell? ⟨g,2,none⟩=some (.pointer none)) (hsh:w.shape? g=some (54,4)) (hfz:w.frozen? ⟨g,2,none⟩=false) :
  Calls prog 80 #[.pointer (some ⟨g,2,none⟩)] w fun e w'=>e=.returned (.tuple #[])/\w'=w.setCell ⟨g,2,none⟩ (.pointer (some ⟨g,2,none⟩)):=by
 obtain⟨j,I,o⟩:=Option.map_eq_some_iff.1 P9;go_in;go_wp2;rw[Lib.run_to_unsafe w ⟨g,2,none⟩ underlying49 underlying207 I (by rw[o];decide) hsh (by decide:2<4)];simp only[Result.andThen];rw[Oper.upon_value];go_wp2;rw[run_callFunc_extern func126 kp kp kp (e:=Extern.AbiNoEscape.same) kp];rw[Lib.run_noEscape];simp only[Result.andThen];rw[Oper.upon_value];go_wp2;rw[Lib.run_from_unsafe w ⟨g,2,none⟩ underlying207 underlying49 I hsh RV];simp only[Result.andThen];rw[Oper.upon_value];go_wp2;go_end0;exact⟨rfl,rfl⟩
section
variable {B:World} {g:Nat} {eA:Option Addr} {n ec mb:Nat}
theorem Pe (w:World) (l:List UInt8) (h:Ln B g eA n ec mb w l) :
  Calls prog 80 #[.pointer (some ⟨g,2,none⟩)] w fun e w'=>e=.returned (.tuple #[])/\vP g w w'/\ik B w'/\∃(A:Option Addr) (c:Nat),iP w' g 54 #[.slice eA n ec,.map (some mb),.pointer (some ⟨g,2,none⟩),.slice A l.length c]/\w'.ownsRow (g+1) 5 1 (.slice A l.length c) l.length (Lib.byteCells l)/\rR w' g=rR w g/\(l=[]->A=none/\c=0):=by
 obtain⟨p,A,c,hp,j,R,U⟩:=h.st;rcases hp with rfl | rfl
 ·refine (LJ g w (by rw[j.cell];rfl) (by simp[World.shape?,show w.heap[g]?=_ from j]) (j.frozen 2)).mono ?_
  rintro e w' ⟨rfl,rfl⟩;have J:=j.jx 2 (.pointer (some ⟨g,2,none⟩));have I:rR (w.setCell ⟨g,2,none⟩ (.pointer (some ⟨g,2,none⟩))) g=rR w g:=by
   unfold rR;rw[j.cell,J.cell];rfl
  refine⟨rfl,⟨rfl,rfl,rfl,by simp[World.setCell],fun k o hg _=>Below.heap_setCell w _ _ k hg,fun k o=>.inl (by rw[I]at o;exact o)⟩,pQ (h:=h.aft) (k:=⟨h.hg⟩) _ _,A,c,J,?_,I,U⟩;refine R.kept (row:=some g) ⟨rfl,rfl,rfl,by simp[World.setCell],fun k _ o=>Below.heap_setCell _ _ _ _ (fun e=>o (by simp[e]))⟩ ?_;cases hv:Value.ownBlock (.slice A l.length c) with
  |none=>exact .inl rfl
  |some k=>exact .inr (by have:=R.lt k hv;intro e;injection e with e;omega)
 refine (MZ g w (by rw[j.cell];rfl)).mono ?_;rintro e w' ⟨rfl,rfl⟩;exact⟨rfl,vP.refl _ _,h.aft,A,c,j,R,rfl,U⟩
theorem Dm (l:List UInt8) (s:ByteArray):Lib.byteCells l++Lib.strCells s=Lib.byteCells (l++s.data.toList):=by
 rw[GQ];unfold Lib.byteCells;rw[s_]
theorem OD (w:World) (l:List UInt8) (s:ByteArray) (h:Ln B g eA n ec mb w l) (hl:l.length+s.size<=140737488355328) :
  Calls prog 42 #[.pointer (some ⟨g,2,none⟩),s] w fun e w'=>e=.returned (.tuple #[.int .i64 s.size,.nilIface])/\Ln B g eA n ec mb w' (l++s.data.toList)/\vP g w w':=by
 obtain⟨i0,hi,ag,af,ae⟩:=info_parts Mk;have R:(l++s.data.toList).length=l.length+s.size:=by rw[mo,Rp]
 have hg:=h.hg;have HC:=iB (Pe w l h);go_in;go_wp2_with (go_at_call 80;refine HC.mono ?_)
 rintro e w1 ⟨rfl,s1,a1,A,c,hb,ho,ar,hz⟩;replace hz:=iB hz;have c3:w1.cell? ⟨g,3,none⟩=some (.slice A l.length c):=by rw[hb.cell];rfl
 have aq:=hb.lt;have HB:=iB hb;have HO:=iB ho;go_wp2_with (at_builtin;refine zq rfl _ _ 50 9 rfl (g+1) 5 i0 underlying50 underlying9 hi ag af ae _ _ _ rfl HO s rfl hl (by omega) ?_)
 intro v2 w2 a_ j ah U;replace U:=iB U;have aj:∀k,Value.ownBlock (.slice A l.length c)=some k->k≠g:=fun k o e=>by have:=HO.lt k o;omega
 have J:iP w2 g 54 #[.slice eA n ec,.map (some mb),.pointer (some ⟨g,2,none⟩),.slice A l.length c]:=HB.grown j (fun e=>aj g e.symm rfl);have f3:=J.frozen 3;have ao:=J.lt;have e3:w2.cell? ⟨g,3,none⟩=some (.slice A l.length c):=by rw[J.cell];rfl
 obtain⟨A2,c2,rfl,_,_⟩:=ji a_;have an:=iB J;have ad:=iB a_;have a7:=j.size;go_wp2_with fail;have ab:=an.jx 3 (.slice A2 (l.length+s.size) c2);have I:rR w1 g=Value.ownBlock (.slice A l.length c):=by unfold rR;rw[c3];rfl
 have a6:rR (w2.setCell ⟨g,3,none⟩ (.slice A2 (l.length+s.size) c2)) g=Value.ownBlock (.slice A2 (l.length+s.size) c2):=by unfold rR;rw[ab.cell];rfl
 refine jR (v:=.tuple #[.int .i64 s.size,.nilIface]) (by simp[results,results42,go_sem]) rfl ⟨rfl,⟨?_,hg,some ⟨g,2,none⟩,A2,c2,.inr rfl,?_,?_,?_⟩,?_⟩
 ·refine pQ (h:=?_) (k:=⟨hg⟩) _ _
  exact⟨j.os.trans a1.below.os,j.tape.trans a1.below.tape,j.output.trans a1.below.output,jW a1.below.size a7,fun k o=>(j.block k (rO o a1.below.size) (fun e=>by have:=HO.lt k e.symm;omega)).trans (a1.below.block k o)⟩
 ·rw[R]
  exact ab
 ·rw[R,<- Dm]
  refine ad.kept (row:=some g) ⟨rfl,rfl,rfl,by simp[World.setCell],fun k _ o=>Below.heap_setCell _ _ _ _ (fun e=>o (by simp[e]))⟩ ?_;cases hv:Value.ownBlock (.slice A2 (l.length+s.size) c2) with
  |none=>exact .inl rfl
  |some k=>exact .inr (by have:=ad.lt k hv;intro e;injection e with e;omega)
 ·intro a'
  obtain⟨aa,a8⟩:=List.append_eq_nil_iff.1 a';obtain⟨rfl,rfl⟩:=hz aa;have ai:s=ByteArray.empty:=by cases s;simp at a8;subst a8;rfl
  have h9:=U rfl aa rfl ai;simp only[Value.slice.injEq]at h9;exact⟨h9.1,h9.2.2⟩
 refine s1.trans ⟨j.os,j.tape,j.output,by simpa[World.setCell] using a7,fun k o ak al=>?_,fun k o=>?_⟩
 ·exact (Below.heap_setCell w2 ⟨g,3,none⟩ _ k ak).trans (j.block k o fun e=>al (by rw[I];exact e.symm))
 rw[a6]at o;rw[I];rcases ah with e | e
 ·exact .inl (e▸o)
 rw[e]at o;injection o with o;exact .inr iu
end
end
section
def rL (k:Nat) (P:List Pc):List Pc:=List.replicate (2*k) (.sp 32)++(P++[.sp 10])
theorem KR (k:Nat):iY (List.replicate (2*k) (.sp 32))=Lib.repeatL [32,32] k:=by
 induction k with
 |zero=>rfl
 |succ k ih=>
 rw[show 2*(k+1)=2*k+1+1 by omega,L6,L6,jn,jn,ih];rfl
theorem KB (k:Nat) (P:List Pc):iY (rL k P)=Lib.repeatL [32,32] k++iY P++[10]:=by
 unfold rL;rw[iC,iC,KR,jn,ja,kD]
theorem Pb (k:Nat):(Lib.repeatL [32,32] k:List UInt8).length=2*k:=by
 rw[<- KR];induction k with
 |zero=>rfl
 |succ k ih=>rw[show 2*(k+1)=2*k+1+1 by omega,L6,L6,jn,jn,py,py,ih]
section
variable {B:World} {g:Nat} {eA:Option Addr} {n ec mb:Nat}
theorem rE (w:World) (l:List UInt8) (k:Nat) (P:List Pc) (h:Ln B g eA n ec mb w l) (hk:k<=1000) (hl:l.length+(iY (rL k P)).length<=140737488355328) :
  Calls prog 17 #[.pointer (some ⟨g,0,none⟩),.int .i64 k,.string (lG (iY P))] w fun e w'=>e=.returned (.tuple #[])/\Ln B g eA n ec mb w' (l++iY (rL k P))/\vP g w w':=by
 rw[KB]at hl⊢;simp only[mo,xH]at hl;generalize iY P=x at hl⊢;obtain⟨S1,e1,g1⟩:=jh (A:=⟨(Lib.repeatL [32,32] k).toArray⟩) (a:=Lib.repeatL [32,32] k) (B:=lG x) rfl rfl iu;obtain⟨I,e2,g2⟩:=jh (B:=⟨#[10]⟩) (b:=[10]) e1 rfl (by simp;omega);have HR:=iy (fun U=>strings_Repeat ⟨#[32,32]⟩ k U iu (by rw[show (⟨#[32,32]⟩:ByteArray).size=2 from rfl];omega));have HW:Hid (∀U,ik w U->Calls prog 42 #[.pointer (some ⟨g,2,none⟩),.string I] U fun e w'=>e=.returned (.tuple #[.int .i64 I.size,.nilIface])/\Ln B g eA n ec mb w' (l++(Lib.repeatL [32,32] k++x++[10]))/\vP g U w'):=iy fun U o=>by
  have:=OD U l I (h.after o) (by rw[e2,yK];simp;omega);rw[show I.data.toList=Lib.repeatL [32,32] k++x++[10] from by rw[e2,Cd]]at this;exact this
 have J:=h.lt;clear hl e1 e2 h;go_in;go_wp2_with fail;refine jm (fun U:World=>True) [8] kp ?_;have j:(fun U:World=>True) w.drew:=trivial;refine nZ 0 [1,2,8] (.pointer (some ⟨g,0,none⟩)) rfl kp kp kp kp kp kp (fun _ _ _ h=>h) (Or.inl ⟨by rfl,?_⟩) j ?_
 ·intro U o;go_simp
 refine nZ 1 [2,8] (.pointer (some ⟨g,0,none⟩)) rfl kp kp kp kp kp kp (fun _ _ _ h=>h) (Or.inl ⟨by rfl,?_⟩) j ?_
 ·intro U o;go_simp
 refine nZ 2 [8] (.pointer (some ⟨g,2,none⟩)) rfl kp kp kp kp kp kp (fun _ _ _ h=>h) (Or.inl ⟨by rfl,?_⟩) j ?_
 ·intro U o;go_simp
 refine nZ 3 [4,8] (.int .i64 k) rfl kp kp kp kp kp kp (fun _ _ _ h=>h) (Or.inl ⟨by rfl,?_⟩) j ?_
 ·intro U o;go_simp
 refine nZ 5 [6,7,8] (.string (lG x)) rfl kp kp kp kp kp kp (fun _ _ _ h=>h) (Or.inl ⟨by rfl,?_⟩) j ?_
 ·intro U o;go_simp
 clear j;refine lH 4 ?_;go_simp;go_at_call 43;refine (HR _).mono ?_;rintro e w1 ⟨rfl,R⟩;have a1:=ij (iR:ik w w.drew) ⟨R⟩;dsimp only;refine lH 6 ?_;go_simp;refine lH 7 ?_;go_simp;refine lH 8 ?_;go_simp;go_at_call 42;refine (HW w1 a1).mono ?_;rintro e w2 ⟨rfl,hL,hs⟩;dsimp only;refine iT kp ?_ _;go_wp2;go_end0;exact⟨rfl,hL,(vP.rJ a1 J).trans hs⟩
end
end
section
structure WB (B:World) (eA:Option Addr) (ec:Nat) (el:List iW) (mb:Nat):Prop where
 sh:ID B eA ec el
 sy:uH B mb 14 GG
 tg:mL el
 nm:pB el
def tG (B:World) (g:Nat) (eA:Option Addr) (n ec mb:Nat) (f:Nat) (args:List Value) (P:List Pc):Prop:=
 ∀(w:World) (l:List UInt8),Ln B g eA n ec mb w l->l.length+(iY P).length<=140737488355328 ->
  Calls prog f (.pointer (some ⟨g,0,none⟩)::args).toArray w fun e w'=>e=.returned (.tuple #[])/\Ln B g eA n ec mb w' (l++iY P)/\vP g w w'
def nr (el:List iW) (k:Nat) (l:List iO):List Pc:=if l.length=0 then [] else rL k (mB [118,97,114]::.sp 32::(kO el l++[mf [59]]))
section
variable {B:World} {g:Nat} {eA:Option Addr} {ec mb:Nat} {el:List iW}
theorem ur {n:Nat} {w:World} {l:List UInt8} (h:Ln B g eA n ec mb w l) (k:Nat) (hk:k<=1000) (P:List Pc) {S:ByteArray} (hS:S=lG (iY P)) (hl:l.length+(iY (rL k P)).length<=140737488355328) :
  Hid (∀U,ik w U->Calls prog 17 #[.pointer (some ⟨g,0,none⟩),.int .i64 k,.string S] U fun e w'=>e=.returned (.tuple #[])/\Ln B g eA n ec mb w' (l++iY (rL k P))/\vP g w w'):=by
 subst hS;refine iy fun U j=>(rE U l k P (h.after j) hk hl).mono ?_
 rintro e w' ⟨J,I,o⟩;exact⟨J,I,(vP.rJ j h.lt).trans o⟩
theorem BP (hB:WB B eA ec el mb) {A:Option Addr} {c:Nat} {d:List iO} {port:Bool} (hR:ir 3 jG B ⟨A,c,d⟩) (hE:nN el port d=0) (h4:d.length<=1000) (k:Nat) (hk:k<=1000) :
  tG B g eA el.length ec mb 46 [.int .i64 k,.slice A d.length c] (nr el k d):=by
 intro w l h j;show Calls prog _ #[.pointer (some ⟨g,0,none⟩),.int .i64 k,.slice A d.length c] w _
 unfold nr at j⊢;by_cases o:d.length=0
 ·rw[iG o,o,ja,oV]
  have HH:=iB h;clear hB hR hE h4 j h o;go_in;go_wp2;go_end0;exact⟨rfl,HH.out,vP.refl _ _⟩
 rw[iV o]at j⊢;have I:=qC hB.tg hB.nm hE h4;obtain⟨c0,c1⟩:=h.cells;have HD:=iB (fun U (hU:ik w U)=>Al (mb:=mb) hB.sh hB.tg hB.nm hR hE h4 U (ij h.aft hU));obtain⟨S1,e1,g1⟩:=jh (A:=⟨#[118,97,114,32]⟩) (a:=[118,97,114,32]) (B:=lG (iY (kO el d))) rfl rfl (by simp;omega);obtain⟨S2,R,g2⟩:=jh (B:=⟨#[59]⟩) (b:=[59]) e1 rfl (by simp;omega);have HA:=ur h k hk (mB [118,97,114]::.sp 32::(kO el d++[mf [59]])) (S:=S2) (by rw[R,kH,jn,iC,jl,ja];simp) j;generalize lG (iY (kO el d))=J at HD g1;generalize d.length=n9 at *
 have a1:(0:Int)<(n9:Int):=iu;clear hB hR hE h4 j h o I e1 R;go_in;go_wp2_with fail;refine (HD.out _ iR).mono ?_;rintro e w' ⟨rfl,y,rfl⟩;go_wp2_with fail;refine (HA.out _ iR).mono ?_;rintro e w2 ⟨rfl,hL,hs⟩;go_wp2;go_end0;exact⟨rfl,hL,hs⟩
end
end
section
section
variable {P:Program} {ops:Array Oper} {md:Region.Mode} {C:World->Prop}
def wI (P:Program) (md:Region.Mode) (ops:Array Oper) (C:World->Prop) (n:Nat) (L:Array Bool->Act->Prop):Nat->Array Bool->Act->Prop
 |0,t,a=>L t a
 |m+1,t,a=>Region.ready md ops t≠[]/\∀k∈Region.ready md ops t,k<n/\qOp P ops C k (wI P md ops C n L m (t.setIfInBounds k true)) a
theorem wI.any {n g:Nat} {L:Array Bool->Act->Prop} {Q:Exit->Act->World->Prop} (hL:∀t a w,C w->L t a->wpAny P md ops Q g t a w) :
  ∀(m:Nat) (t:Array Bool) (a:Act) (w:World),C w->wI P md ops C n L m t a->wpAny P md ops Q (m+g) t a w:=by
 intro m;induction m with
 |zero=>intro t a w o h;rw[t_];exact hL t a w o h
 |succ m ih=>
 intro t a w o h;rw[show m+1+g=(m+g)+1 by omega];exact⟨fun R=>absurd R h.1,fun k J=>wpOp_of_qOp o (fun a' I j U=>ih _ a' I j U) (h.2 k J).2⟩
theorem wI.first {n i:Nat} {oi:Oper} {v:Value} {L:Array Bool->Act->Prop} (hi:ops[i]?=some oi) (hsel:∀(j:Nat) (o:Oper) cs b,ops[j]?=some o->o.op≠.select cs b)
  (hs:Region.sinkB md ops n=true) (hc:Region.chainB md ops n=true) (hn:n<ops.size) (hin:i<n) (hdone:∀t a,L t a->∀j∈Region.ready md ops t,n<=j) :
  ∀(m:Nat) (t:Array Bool) (a:Act),HeadInv md ops n t ->
   (∀j oj,ops[j]?=some oj->j≠i->t.getD j true=false->(∀e∈oj.after,Region.binds md e=true->e.on≠i)->oi.apart ops oj=true) ->
   i∈Region.ready md ops t->YieldsIn P ops C oi v a ->
   wI P md ops C n L m (t.setIfInBounds i true) (a.put oi.dst v)->wI P md ops C n L (m+1) t a:=by
 intro m;induction m with
 |zero=>
  intro t a a1 _ hr hy H;have a6:=(mem_ready.1 hr).1;have R:∀j∈Region.ready md ops t,j<n:=fun j J=>by
   rcases qa j n with h | h
   ·exact h
   exact absurd J (tail_waits hs hc hn a1 _ i rfl hin a6 j h)
  refine⟨fun h=>(by rw[h]at hr;cases hr),fun j J=>⟨R j J,?_⟩⟩;by_cases I:j=i
  ·subst I;exact hy.qOp hi H
  have h1:=hdone _ _ H j (ready_mono J I);have h2:=R j J;omega
 |succ m ih=>
 intro t a a1 U hr hy H;have a6:=(mem_ready.1 hr).1;have R:∀j∈Region.ready md ops t,j<n:=fun j J=>by
  rcases qa j n with h | h
  ·exact h
  exact absurd J (tail_waits hs hc hn a1 _ i rfl hin a6 j h)
 refine⟨fun h=>(by rw[h]at hr;cases hr),fun j J=>⟨R j J,?_⟩⟩;by_cases I:j=i
 ·subst I;exact hy.qOp hi H
 have h1:=(H.2 j (ready_mono J I)).2;obtain⟨a8,oj,a_,ad⟩:=mem_ready.1 J;have aa:∀e∈oj.after,Region.binds md e=true->e.on≠i:=fun e he hb ag=>by
  have h3:=ad e he hb;rw[ag,getD_both a6]at h3;cases h3
 have h2:=qOp_put a_ (U j oj a_ I a8 aa) (fun cs b=>hsel i oi cs b hi) (fun cs b=>hsel j oj cs b a_) hy h1;have a7:∀k ok,ops[k]?=some ok->k≠i->(t.setIfInBounds j true).getD k true=false ->
   (∀e∈ok.after,Region.binds md e=true->e.on≠i)->oi.apart ops ok=true:=fun k ok hk af hu ae=>by
  refine U k ok hk af ?_ ae;by_cases ab:j=k
  ·subst ab;exact a8
  rw[getD_set_ne true ab]at hu;exact hu
 refine qOp_mono (fun a' h3=>ih (t.setIfInBounds j true) a' (a1.set J (R j J)) a7 (ready_mono hr (ls I)) h3.1 ?_) h2;rw[Array.setIfInBounds_comm _ _ I];exact h3.2
theorem wI.lex {n g:Nat} {Lq:Act->Prop} (hsel:Region.noSelect ops=true) (hs:Region.sinkB md ops n=true) (hc:Region.chainB md ops n=true) (hn:n<ops.size) :
  ∀(l:List Oper) (k:Nat) (t:Array Bool) (a:Act),(∀j,j<l.length->l[j]?=ops[k+j]?)->k+l.length=n->HeadInv md ops n t ->
  Region.lexHead md ops g l.length k t=true->wpQuiet P ops C Lq l a ->
  wI P md ops C n (fun t' a'=>Region.seqB md ops g n t'=true/\Lq a') l.length t a:=by
 intro l;induction l with
 |nil=>
  intro k t a _ U _ hB h;have:k=n:=by simpa using U
  subst this;exact⟨by simpa[Region.lexHead] using hB,h⟩
 |cons o l ih=>
 intro k t a hl U I hB h;have h0:ops[k]?=some o:=by simpa using (hl 0 (by simp)).symm
 simp only[py,Region.lexHead,mT]at hB;obtain⟨⟨hr,hf⟩,a6⟩:=hB;have R:k<n:=by simp only[py]at U;omega
 have J:k∈Region.ready md ops t:=by simpa using hr
 have a1:qOp P ops C k (wpQuiet P ops C Lq l) a:=by unfold qOp;simp only[h0];exact h
 obtain⟨v,hy,hK⟩:=yieldsIn_of_qOp h0 a1;exact wI.first h0 (Region.noSelect_spec hsel) hs hc hn R (fun t' a' hL=>seqB_ready hL.1) l.length t a I (Region.free_spec h0 hf) J hy
  (ih (k+1) _ _ (fun j hj=>by have:=hl (j+1) (by simp;omega);simpa[CL,Nat.add_comm 1 j] using this) (by simp only[py]at U;omega) (I.set J R) a6 hK)
theorem xe {id:Nat} {Q:Exit->Act->World->Prop} {a:Act} {w:World} {l:List Oper} (n:Nat) (hm:P.follows .mixedOrders=true) (hB:Region.lexTailB .any l.toArray n=true) (hC:C { w with drawn:=w.drawn+1 })
  (h:wpQuiet P l.toArray C (fun a'=>∀w',C w'->wpList P l.toArray Q (l.drop n) a' w') (l.take n) a):(Code.region id l.toArray true).wp P Q a w:=by
 simp only[Region.lexTailB,mT,decide_eq_true_eq]at hB;obtain⟨⟨⟨⟨J,hn⟩,hs⟩,hc⟩,R⟩:=hB;have a7:n<l.length:=by simpa using hn
 have o:(l.take n).length=n:=by simp;omega
 have U:(l.drop n).length=l.toArray.size-n:=by simp
 have I:HeadInv .any l.toArray n (Array.replicate l.toArray.size false):=
  ⟨by simp,fun j oj _ hl=>(by rw[getD_replicate_false]at hl;cases hl),fun t _ ht=>getD_in (by simpa using ht) (getD_replicate_false _ _)⟩
 have H:=wI.lex (md:=.any) (g:=l.toArray.size-n) J hs hc hn (l.take n) 0 _ a (fun j hj=>by
  have a6:j<n:=by rw[o]at hj;exact hj
  simp[a6]) (by simpa using o) I (by rw[o];exact R) h
 refine wp_region_any hm ?_;have:=wI.any (Q:=Q) (g:=l.toArray.size-n) (fun t a' w' a1 hL=>by
  have:=wpAny_of_seq (md:=.any) (Q':=Q) (l.drop n) n t a' w' (fun j=>by simp[List.getElem?_drop]) (by rw[U];exact hL.1) (hL.2 w' a1);rwa [U]at this) _ _ _ _ hC H
 rw[o,show n+(l.toArray.size-n)=l.toArray.size by omega]at this;exact this
end
theorem jf {P:Program} {id:Nat} {Q:Exit->Act->World->Prop} {a:Act} {w:World} {l:List Oper} (n:Nat) (hm:P.follows .mixedOrders=true) (hB:Region.lexTailB .any l.toArray n=true)
  (h:wpQuiet P l.toArray (fun w'=>∃y,w'=w.more y) (fun a'=>∀w',(∃y,w'=w.more y)->wpList P l.toArray Q (l.drop n) a' w') (l.take n) a):(Code.region id l.toArray true).wp P Q a w:=
 xe (C:=fun w'=>∃y,w'=w.more y) n hm hB (jP w w.drew) h
end
abbrev Iq:=@vP.refl
abbrev D_:=@vP.rJ
end Go.Proofs.YtnigblndonocfaaGreatDoor
