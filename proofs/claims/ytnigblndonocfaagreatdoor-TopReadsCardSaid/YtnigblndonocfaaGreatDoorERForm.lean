/- A part of the proof. -/
import Derived.Test.YtnigblndonocfaaGreatDoorPNum
import Derived.Lib.ItoaNum
import Derived.Lib.ItoaLen
import Derived.Lib.Strings
import Derived.Lib.Bytealg
set_option linter.unusedVariables false
set_option linter.unusedSimpArgs false
namespace Go.Proofs.YtnigblndonocfaaGreatDoor
set_option maxRecDepth 100000
set_option maxHeartbeats 4000000
open Go.RowKit Go.BigFrame
def xF (u:Nat):ByteArray:=⟨(Lib.decDigits u).toArray⟩
theorem qV (u:Nat):(xF u).data.toList=Lib.decDigits u:=rfl
theorem Aa {u:Nat} (h:u<10):Lib.decDigits u=[UInt8.ofNat (48+u)]:=Lib.decDigits_one h
theorem Av {u:Nat} (h:10<=u):Lib.decDigits u=Lib.decDigits (u / 10)++[UInt8.ofNat (48+u % 10)]:=by
 rw[Lib.decDigits,dif_neg iu]
theorem Is (n:Int) (a b:List UInt8):ud n (a++b)=ud (ud n a) b:=List.foldl_append ..
theorem EX {d:Nat} (h:d<10):(UInt8.ofNat (48+d)).toNat=48+d:=by
 rw[UInt8.toNat_ofNat'];omega
theorem yF:∀(k u:Nat),u<10 ^ k->0<k->ud 0 (Lib.decDigits u)=(u:Int)
 |0,u,h,h0=>by omega
 |k+1,u,h,h0=>by
  rcases qa u 10 with hu | hu
  ·rw[Aa hu]
   show 10*0+(((UInt8.ofNat (48+u)).toNat:Nat)-48:Int)=u
   rw[EX hu];omega
  have hk:0<k:=by
   rcases Nat.eq_zero_or_pos k with e | e
   ·subst e;simp at h;omega
   exact e
  rw[Av hu,Is,yF k (u / 10) (by rw[Nat.pow_succ]at h;omega) hk];show 10*((u / 10:Nat):Int)+(((UInt8.ofNat (48+u % 10)).toNat:Nat)-48:Int)=u
  rw[EX iu];omega
theorem Hm {u:Nat} (h:u<=32768):rY (xF u)=(u:Int):=yF 5 u iu iI
theorem H8:∀d:Nat,d<10->jw ((UInt8.ofNat (48+d)).toNat:Nat)=true:=iI
theorem KH:∀(k u:Nat),u<10 ^ k->0<k->(Lib.decDigits u).all (fun c=>jw c.toNat)=true/\0<(Lib.decDigits u).length/\(Lib.decDigits u).length<=k/\(10<=u->(Lib.decDigits u).headD 0≠48)/\(0<u->(Lib.decDigits u).headD 0≠48)
 |0,u,h,h0=>by omega
 |k+1,u,h,h0=>by
  rcases qa u 10 with hu | hu
  ·rw[Aa hu]
   refine⟨by rw[Bh,List.all_nil,Bool.and_true];exact H8 u hu,by simp,by simp,fun h=>by omega,fun hp=>?_⟩;intro e;have:(UInt8.ofNat (48+u)).toNat=48:=by rw[show UInt8.ofNat (48+u)=48 from e];rfl
   rw[EX hu]at this;omega
  have hk:0<k:=by
   rcases Nat.eq_zero_or_pos k with e | e
   ·subst e;simp at h;omega
   exact e
  obtain⟨J,I,U,R,o⟩:=KH k (u / 10) (by rw[Nat.pow_succ]at h;omega) hk;rw[Av hu];have j:(Lib.decDigits (u / 10)++[UInt8.ofNat (48+u % 10)]).headD 0=(Lib.decDigits (u / 10)).headD 0:=by
   cases hx:Lib.decDigits (u / 10) with
   |nil=>rw[hx]at I;simp at I
   |cons a l=>rfl
  refine⟨by rw[He,J,Bh,List.all_nil,Bool.and_true,xI];exact H8 (u % 10) iu,by simp,by rw[mo];simp;omega,fun _=>by rw[j];exact o iu,fun _=>by rw[j];exact o iu⟩
theorem Cy {c:UInt8} (h:jw c.toNat=true):48<=c.toNat/\c.toNat<=57:=by
 unfold jw at h;simp only[mT,decide_eq_true_eq]at h;omega
theorem yk:∀(a:List UInt8) (m:Int),a.all (fun c=>jw c.toNat)=true->m*10 ^ a.length<=ud m a/\ud m a<(m+1)*10 ^ a.length
 |[],m,_=>by
  show m*10 ^ 0<=m/\m<(m+1)*10 ^ 0
  simp;omega
 |c::a,m,h=>by
  simp only[Bh,mT]at h;have hd:=Cy h.1;have ih:=yk a (10*m+((c.toNat:Nat)-48:Int)) h.2;have e:ud m (c::a)=ud (10*m+((c.toNat:Nat)-48:Int)) a:=rfl;rw[e,py,Int.pow_succ];have hp:(0:Int)<10 ^ a.length:=Int.pow_pos (by decide);generalize (10:Int) ^ a.length=P at ih hp⊢;refine⟨Int.le_trans ?_ ih.1,Int.lt_of_lt_of_le ih.2 ?_⟩
  ·have:(m*10)*P<=(10*m+((c.toNat:Nat)-48:Int))*P:=Int.mul_le_mul_of_nonneg_right iu iu
   rw[show m*(P*10)=(m*10)*P by rw[Int.mul_comm P 10,<- Int.mul_assoc]];exact this
  have:(10*m+((c.toNat:Nat)-48:Int)+1)*P<=((m+1)*10)*P:=Int.mul_le_mul_of_nonneg_right iu iu;rw[show (m+1)*(P*10)=((m+1)*10)*P by rw[Int.mul_comm P 10,<- Int.mul_assoc]];exact this
theorem AY:∀(a b:List UInt8) (m:Int),a.length=b.length->a.all (fun c=>jw c.toNat)=true->b.all (fun c=>jw c.toNat)=true->ud m a<ud m b->Op.bytesLess a b=true
 |[],[],m,_,_,_,h=>absurd h (Int.lt_irrefl _)
 |[],y::b,m,hl,_,_,_=>by simp at hl
 |x::a,[],m,hl,_,_,_=>by simp at hl
 |x::a,y::b,m,hl,ha,hb,h=>by
  simp only[Bh,mT]at ha hb;have hx:=Cy ha.1;have hy:=Cy hb.1;rw[Op.bytesLess];have e1:ud m (x::a)=ud (10*m+((x.toNat:Nat)-48:Int)) a:=rfl;have e2:ud m (y::b)=ud (10*m+((y.toNat:Nat)-48:Int)) b:=rfl;rw[e1,e2]at h;rcases Nat.lt_trichotomy x.toNat y.toNat with hc | hc | hc
  ·have:x<y:=UInt8.lt_iff_toNat_lt.2 hc
   simp[this]
  ·have hxy:=UInt8.toNat_inj.1 hc
   subst hxy;have ih:=AY a b _ (by simpa using hl) ha.2 hb.2 h;simp[ih]
  exfalso;have r1:=(yk a (10*m+((x.toNat:Nat)-48:Int)) ha.2).1;have r2:=(yk b (10*m+((y.toNat:Nat)-48:Int)) hb.2).2;have hl2:a.length=b.length:=by simpa using hl
  rw[hl2]at r1;have hp:(0:Int)<10 ^ b.length:=Int.pow_pos (by decide);generalize (10:Int) ^ b.length=P at r1 r2 hp;have:(10*m+((y.toNat:Nat)-48:Int)+1)*P<=(10*m+((x.toNat:Nat)-48:Int))*P:=Int.mul_le_mul_of_nonneg_right iu iu;omega
theorem Bv:Lib.decDigits 32768=[51,50,55,54,56]:=by
 rw[Av iI,Av iI,Av iI,Av iI,Aa iI];decide
theorem JN {u:Nat} (h:u<=32768):Ri (xF u)=true:=by
 obtain⟨U,h2,h3,h4,-⟩:=KH 5 u iu iI;have hs:(xF u).size=(Lib.decDigits u).length:=by rw[<- jr,qV]
 have hb:qM (xF u) 0=(((Lib.decDigits u).headD 0).toNat:Nat):=by unfold qM;rw[qV,sS]
 unfold Ri;rw[hs,qV,U,hb];have c1:(decide (1<(Lib.decDigits u).length)&&(((Lib.decDigits u).headD 0).toNat:Int)==48)=false:=by
  rcases qa u 10 with j | j
  ·rw[Aa j];rfl
  have I:((((Lib.decDigits u).headD 0).toNat:Int)==48)=false:=by
   rw[beq_eq_false_iff_ne];intro e;apply h4 j;apply UInt8.toNat_inj.1;show _=48
   omega
  rw[I,qT]
 have c2:(decide (5<(Lib.decDigits u).length)||(decide ((Lib.decDigits u).length=5)&&Ft (xF u)))=false:=by
  rw[decide_eq_false iu,Bool.false_or];by_cases R:(Lib.decDigits u).length=5
  ·have o:Ft (xF u)=false:=by
    unfold Ft;rw[nC,qV];rcases qa u 32768 with j | j
    ·have hm:(Lib.decDigits 32768).all (fun c=>jw c.toNat)=true:=by rw[Bv];decide
     have J:=AY (Lib.decDigits u) (Lib.decDigits 32768) 0 (by rw[R,Bv];rfl) U hm (by rw[yF 5 u iu iI,yF 5 32768 iI iI];omega);rw[Bv]at J;rw[J];rfl
    obtain rfl:u=32768:=iu;rw[Bv];rfl
   rw[o,qT]
  rw[decide_eq_false R,qu]
 rw[c1,c2,lp h2];rfl
def mB (l:List UInt8):Pc:=.tk ⟨3,⟨l.toArray⟩⟩
def mf (l:List UInt8):Pc:=.tk ⟨4,⟨l.toArray⟩⟩
def rM (s:ByteArray):Pc:=.tk ⟨1,s⟩
def So (s:ByteArray):Pc:=.tk ⟨5,s⟩
def wm (el:List iW) (t v:Int):List Pc:=
 if t=1 then (if v=1 then [mB [116,114,117,101]] else [mB [102,97,108,115,101]])
 else if t=2 then (if v<0 then [mf [45],.tk ⟨2,xF v.natAbs⟩] else [.tk ⟨2,xF v.toNat⟩])
 else match el[(t-3).toNat]? with | some u=>[rM (u.tags.l.getD v.toNat ⟨#[]⟩)] | none=>[]
theorem kH (l:List UInt8) (ps:List Pc):iY (mB l::ps)=l++iY ps:=rfl
theorem jl (l:List UInt8) (ps:List Pc):iY (mf l::ps)=l++iY ps:=rfl
theorem lQ (s:ByteArray) (ps:List Pc):iY (rM s::ps)=s.data.toList++iY ps:=rfl
theorem NQ (s:ByteArray) (ps:List Pc):iY (So s::ps)=39::(s.data.toList++[39])++iY ps:=rfl
theorem Cm (s:ByteArray) (ps:List Pc):iY (.tk ⟨2,s⟩::ps)=s.data.toList++iY ps:=rfl
theorem jn (c:UInt8) (ps:List Pc):iY (.sp c::ps)=c::iY ps:=rfl
theorem ja:iY []=[]:=rfl
theorem Oz:Lib.formatBool true=[116,114,117,101]:=by decide +kernel
theorem Mp:Lib.formatBool false=[102,97,108,115,101]:=by decide +kernel
theorem PC (el:List iW) (t v:Int):iY (wm el t v)=PQ el t v:=by
 unfold wm PQ;by_cases I:t=1
 ·rw[iG I,iG I]
  by_cases j:v=1
  ·rw[iG j,j];exact Oz.symm
  rw[iV j,show (v==1)=false by simpa using j];exact Mp.symm
 rw[iV I,iV I];by_cases o:t=2
 ·rw[iG o,iG o]
  unfold Lib.itoa;by_cases j:v<0
  ·rw[iG j,iG j,jl,Cm,qV,ja,oV];rfl
  rw[iV j,iV j,Cm,qV,ja,oV]
 rw[iV o,iV o];cases el[(t-3).toNat]? with
 |none=>rfl
 |some u=>exact oV _
structure Ar where
 p:Bool
 c:Bool
 l:List Pc
def Ar.none_:Ar:=⟨true,false,[]⟩
def pF (L:List Ar) (i:Nat):Ar:=L.getD i Ar.none_
def kM (a:Ar):List Pc:=if a.p then a.l else mf [40]::(a.l++[mf [41]])
def z_ (o:Int):Pc:=
 if o=3 then mB [97,110,100] else if o=4 then mB [111,114] else if o=5 then mB [120,111,114] else if o=6 then mf [43] else if o=7 then mf [45] else if o=8 then mf [42] else if o=9 then mf [47]
 else if o=10 then mB [109,111,100] else if o=11 then mf [61] else if o=12 then mf [60,62] else if o=13 then mf [60] else if o=14 then mf [60,61] else if o=15 then mf [62] else if o=16 then mf [62,61] else .sp 32
def EA (o:Int) (L:List Ar):List Pc:=
 if o=1 then mB [110,111,116]::.sp 32::kM (pF L 0)
 else if o=2 then (if (pF L 0).c then mf [45]::mf [40]::((pF L 0).l++[mf [41]]) else mf [45]::kM (pF L 0))
 else kM (pF L 0)++.sp 32::z_ o::.sp 32::kM (pF L 1)
def wj (el:List iW) (t:Int):Nat->List Ar->List Pc
 |_,[]=>[]
 |i,a::l=>.sp 32::mf [40]::(wm el t (if t=1 then 1-(i:Int) else i)++.sp 32::mf [45,62]::.sp 32::(a.l++mf [41]::wj el t (i+1) l))
def mq (sep:List Pc):List (List Pc)->List Pc
 |[]=>[]
 |[a]=>a
 |a::b::l=>a++sep++mq sep (b::l)
def qR:List Pc:=[mf [44],.sp 32]
def FX (el:List iW) (t v:Int) (s:ByteArray):List Pc:=mB [119,104,101,110]::.sp 32::(wm el t v++[mf [40],rM s,mf [41]])
def AU (v:Int) (s:ByteArray) (L:List Ar):List Pc:=
 rM s::mf [40]::(mq qR ((L.take (L.length-v.toNat)).map Ar.l)++mf [41]::(if v=1 then .sp 32::mB [101,118,101,114,121]::.sp 32::kM (pF L (L.length-1)) else []))
def uF (el:List iW) (k o t v:Int) (s:ByteArray) (L:List Ar):List Pc:=
 if k=1 then wm el t v
 else if k=3 then EA o L
 else if k=4 then mB [105,102]::.sp 32::((pF L 0).l++.sp 32::mB [116,104,101,110]::.sp 32::((pF L 1).l++.sp 32::mB [101,108,115,101]::.sp 32::(pF L 2).l))
 else if k=5 then mB [112,114,101]::.sp 32::kM (pF L 0)
 else if k=6 then kM (pF L 0)++.sp 32::mf [45,62]::.sp 32::kM (pF L 1)
 else if k=7 then kM (pF L 0)++.sp 32::mB [102,98,121]::.sp 32::kM (pF L 1)
 else if k=8 then kM (pF L 0)++.sp 32::FX el t v s
 else if k=9 then mB [109,101,114,103,101]::.sp 32::rM s::wj el t 0 (if t=1 then L.reverse else L)
 else if k=10 then AU v s L
 else if k=11 then [So s]
 else [rM s]
def kb:Ex->Bool
 |.mk k o t v s xs=>k==2||k==11||k==10||(k==1&&(!(t==2)||decide (0<=v)))
def kG:Ex->Bool
 |.mk k o t v s xs=>k==1&&t==2
mutual
def kX (el:List iW):Ex->List Pc
 |.mk k o t v s xs=>uF el k o t v s (jy el xs)
def jy (el:List iW):List Ex->List Ar
 |[]=>[]
 |x::xs=>⟨kb x,kG x,kX el x⟩::jy el xs
end
theorem nD (el:List iW):∀xs:List Ex,(jy el xs).length=xs.length
 |[]=>by rw[jy];rfl
 |x::xs=>by rw[jy,py,py,nD el xs]
theorem F9 (el:List iW):∀(xs:List Ex) (i:Nat),(jy el xs)[i]?=(xs[i]?).map fun x=>⟨kb x,kG x,kX el x⟩
 |[],i=>by rw[jy];simp
 |x::xs,0=>by rw[jy];rfl
 |x::xs,i+1=>by rw[jy,List.getElem?_cons_succ,List.getElem?_cons_succ,F9 el xs i]
theorem pz (el:List iW) {xs:List Ex} {i:Nat} {x:Ex} (h:xs[i]?=some x):pF (jy el xs) i=⟨kb x,kG x,kX el x⟩:=by
 unfold pF;rw[wC,F9,h];rfl
section
open Go.Proofs.Tryz
def uT (t v:Int):Bool:=t==1&&(v==0||v==1)||decide (3<=t)&&decide (0<=v)&&decide (v<16)
def lu (t n:Int):Bool:=t==1&&n==2||decide (3<=t)&&decide (1<=n)&&decide (n<=16)
def kY (o:Int):Int:=if o==1||o==2 then 1 else 2
theorem Gm (t v:Int) (w:World):Calls prog 180 #[t,v] w fun e w'=>e=.returned (.bool (uT t v))/\w=w':=by
 go_in;go_wp2;all_goals
  go_ret;exact⟨iK (by unfold uT;apply Bool.eq_iff_iff.2;simp at *;omega),rfl⟩
theorem Fc (t n:Int) (w:World):Calls prog 182 #[t,n] w fun e w'=>e=.returned (.bool (lu t n))/\w=w':=by
 go_in;go_wp2;all_goals
  go_ret;exact⟨iK (by unfold lu;apply Bool.eq_iff_iff.2;simp at *;omega),rfl⟩
theorem ES (o:Int) (w:World):Calls prog 181 #[o] w fun e w'=>e=.returned (.int .i64 (kY o))/\w=w':=by
 go_in;go_wp2;all_goals
  go_ret;exact⟨Ky (by unfold kY;simp at *;(try split)<;>omega),rfl⟩
def mG (t v:Int):Bool:=t==0&&v==0
def fA (k o t v n:Int):Bool:=
 if k==1||k==2||k==11 then n==0 else if k==3 then n==kY o else if k==4 then n==3 else if k==5||k==8 then n==1 else if k==6||k==7 then n==2 else if k==9 then t != 2&&lu t n else if k==10 then decide (v<=n) else false
def fO (k:Int):Bool:=k==3
def fT (k t v:Int):Bool:=
 if k==1 then (t==2&&decide (-32768<=v)&&decide (v<=32767))||(t != 2&&uT t v) else if k==8 then t != 2&&uT t v else if k==9 then v==0 else if k==10 then t==0&&(v==0||v==1) else if decide (2<=k)&&decide (k<=11) then mG t v else false
def fN (k:Int):Bool:=k==2||k==8||k==9||k==10
def fW (k:Int):Bool:=k==11
theorem mn {P:Program} {fn:Func} {a:Act} {w0 w':World} {x1 x2 x3 x4 x5 y1 y2 y3 y4 y5:Bool}
  (hr:(results fn a.tmps).run P w'=.ok (.agg #[.bool x1,.bool x2,.bool x3,.bool x4,.bool x5]) w') (hd:a.defers=[]) (ha:ik w0 w')
  (h:x1=y1/\x2=y2/\x3=y3/\x4=y4/\x5=y5):bodyPost P fn (fun e w''=>e=.returned (.agg #[.bool y1,.bool y2,.bool y3,.bool y4,.bool y5])/\ik w0 w'') .ret a w':=by
 obtain⟨rfl,rfl,rfl,rfl,rfl⟩:=h;exact jR hr hd ⟨rfl,ha⟩
theorem Q1 {k o t v:Int} {s:ByteArray} {A:Option Addr} {n c:Nat} (hn:n<=140737488355328) (w:World) :
  Calls prog 172 #[.agg #[k,o,t,v,s,.slice A n c]] w fun e w'=>e=.returned (.agg #[.bool (fA k o t v n),.bool (fO k),.bool (fT k t v),.bool (fN k),.bool (fW k)])/\ik w w':=by
 go_in;by_cases k1:k=1
 ·subst k1
  go_wp2_with fail;all_goals first
   |(refine mn (by (simp[results,results172,go_sem];exact⟨rfl,rfl,rfl,rfl,rfl⟩)) rfl iR ?_;simp[fA,fO,fT,fN,fW,mG,uT,lu,kY, *]<;>(try omega))
   |(refine (Gm _ _ _).mono ?_
     rintro e w' ⟨rfl,rfl⟩;go_wp2_with fail;all_goals (refine mn (by (simp[results,results172,go_sem];exact⟨rfl,rfl,rfl,rfl,rfl⟩)) rfl iR ?_;simp[fA,fO,fT,fN,fW,mG,uT,lu,kY, *]<;>(try omega)))
 by_cases k2:k=2
 ·subst k2
  go_wp2_with fail;all_goals (refine mn (by (simp[results,results172,go_sem];exact⟨rfl,rfl,rfl,rfl,rfl⟩)) rfl iR ?_;simp[fA,fO,fT,fN,fW,mG,uT,lu,kY, *]<;>(try omega))
 by_cases k3:k=3
 ·subst k3
  go_wp2_with fail;all_goals first
   |(refine mn (by (simp[results,results172,go_sem];exact⟨rfl,rfl,rfl,rfl,rfl⟩)) rfl iR ?_;simp[fA,fO,fT,fN,fW,mG,uT,lu,kY, *]<;>(try omega))
   |(refine (ES _ _).mono ?_
     rintro e w' ⟨rfl,rfl⟩;go_wp2_with fail;all_goals (refine mn (by (simp[results,results172,go_sem];exact⟨rfl,rfl,rfl,rfl,rfl⟩)) rfl iR ?_;simp[fA,fO,fT,fN,fW,mG,uT,lu,kY, *]<;>(try omega)))
 by_cases k4:k=4
 ·subst k4
  go_wp2_with fail;all_goals (refine mn (by (simp[results,results172,go_sem];exact⟨rfl,rfl,rfl,rfl,rfl⟩)) rfl iR ?_;simp[fA,fO,fT,fN,fW,mG,uT,lu,kY, *]<;>(try omega))
 by_cases k5:k=5
 ·subst k5
  go_wp2_with fail;all_goals (refine mn (by (simp[results,results172,go_sem];exact⟨rfl,rfl,rfl,rfl,rfl⟩)) rfl iR ?_;simp[fA,fO,fT,fN,fW,mG,uT,lu,kY, *]<;>(try omega))
 by_cases k6:k=6
 ·subst k6
  go_wp2_with fail;all_goals (refine mn (by (simp[results,results172,go_sem];exact⟨rfl,rfl,rfl,rfl,rfl⟩)) rfl iR ?_;simp[fA,fO,fT,fN,fW,mG,uT,lu,kY, *]<;>(try omega))
 by_cases k7:k=7
 ·subst k7
  go_wp2_with fail;all_goals (refine mn (by (simp[results,results172,go_sem];exact⟨rfl,rfl,rfl,rfl,rfl⟩)) rfl iR ?_;simp[fA,fO,fT,fN,fW,mG,uT,lu,kY, *]<;>(try omega))
 by_cases U:k=8
 ·subst U
  go_wp2_with fail;all_goals first
   |(refine mn (by (simp[results,results172,go_sem];exact⟨rfl,rfl,rfl,rfl,rfl⟩)) rfl iR ?_;simp[fA,fO,fT,fN,fW,mG,uT,lu,kY, *]<;>(try omega))
   |(refine (Gm _ _ _).mono ?_
     rintro e w' ⟨rfl,rfl⟩;go_wp2_with fail;all_goals (refine mn (by (simp[results,results172,go_sem];exact⟨rfl,rfl,rfl,rfl,rfl⟩)) rfl iR ?_;simp[fA,fO,fT,fN,fW,mG,uT,lu,kY, *]<;>(try omega)))
 by_cases R:k=9
 ·subst R
  rcases Decidable.em (t=2) with J | J
  ·subst J
   go_wp2_with fail;all_goals
    (refine wp_region_still_tail 13 kp kp ?_;simp only[sD,rP,uB,sS];change wpStill _ _ (World.drew _) _ _ _;repeat still_step)
    refine wpStill_nil ?_;change wpList _ _ _ _ _ (World.drew _);go_wp2_with fail;all_goals (refine mn (by (simp[results,results172,go_sem];exact⟨rfl,rfl,rfl,rfl,rfl⟩)) rfl iR ?_;simp[fA,fO,fT,fN,fW,mG,uT,lu,kY, *]<;>(try omega))
  go_wp2_with fail;all_goals
   (refine wp_region_still_tail 13 kp kp ?_;simp only[sD,rP,uB,sS];change wpStill _ _ (World.drew _) _ _ _;repeat still_step)
   still_call ((Fc _ _ _).mono fun _ _ h=>⟨h.1,h.2.symm⟩)
   repeat still_step
   refine wpStill_nil ?_;change wpList _ _ _ _ _ (World.drew _);go_wp2_with fail;all_goals (refine mn (by (simp[results,results172,go_sem];exact⟨rfl,rfl,rfl,rfl,rfl⟩)) rfl iR ?_;simp[fA,fO,fT,fN,fW,mG,uT,lu,kY, *]<;>(try omega))
 by_cases I:k=10
 ·subst I
  go_wp2_with fail;all_goals (refine mn (by (simp[results,results172,go_sem];exact⟨rfl,rfl,rfl,rfl,rfl⟩)) rfl iR ?_;simp[fA,fO,fT,fN,fW,mG,uT,lu,kY, *]<;>(try omega))
 by_cases j:k=11
 ·subst j
  go_wp2_with fail;all_goals (refine mn (by (simp[results,results172,go_sem];exact⟨rfl,rfl,rfl,rfl,rfl⟩)) rfl iR ?_;simp[fA,fO,fT,fN,fW,mG,uT,lu,kY, *]<;>(try omega))
 go_wp2_with fail;all_goals (refine mn (by (simp[results,results172,go_sem];exact⟨rfl,rfl,rfl,rfl,rfl⟩)) rfl iR ?_;simp[fA,fO,fT,fN,fW,mG,uT,lu,kY, *]<;>(try omega))
end
section
theorem vH (l:List Bool):∀c∈n_ l,xd c=true:=by
 intro c j;obtain⟨b,_,rfl⟩:=yQ.1 j;cases b<;>rfl
theorem xV (l:List Bool):rB (n_ l)=true:=by unfold rB;rw[Bk];exact vH l
theorem qQ (l:List Bool):pY (n_ l)=l:=by
 unfold pY n_;rw[xZ];conv=>rhs;rw[<- List.map_id l]
 apply IL;intro b _;cases b<;>rfl
theorem AZ {l:List UInt8} (h:rB l=true):n_ (pY l)=l:=by
 unfold pY n_;rw[xZ];conv=>rhs;rw[<- List.map_id l]
 apply IL;intro c j;have:=(Bk.1 h) c j;simp only[xd,uG,beq_iff_eq]at this;rcases this with rfl | rfl<;>rfl
theorem Cp {p:UInt8->Bool} {a b:List UInt8} {c:UInt8} (ha:∀x∈a,p x=true) (hc:p c=false):(a++c::b).takeWhile p=a:=by
 induction a with
 |nil=>simp[CZ,hc]
 |cons x a ih=>
 rw[lP,CZ,iG (ha x (by simp)),ih fun y j=>ha y (by simp[j])]
theorem C5 (h:List Bool) (c:UInt8) (t:List UInt8) (hc:xd c=false):ph (n_ h++c::t)=n_ h:=Cp (vH h) hc
def Ag (s:List UInt8) (h l:List Bool):Prop:=s=GD h l/\DS h l
theorem wO (h l:List Bool):GD h l=n_ h++40::(n_ l++[41]):=by simp[GD]
theorem LN {h l h' l':List Bool} (e:GD h l=GD h' l'):h=h'/\l=l':=by
 rw[wO,wO]at e;have o:=nQ ph e;rw[C5 _ _ _ rfl,C5 _ _ _ rfl]at o;have I:h=h':=by rw[<- qQ h,o,qQ]
 subst I;have j:=(List.append_cancel_left e);simp only[List.cons.injEq,true_and]at j;have J:=List.append_cancel_right j;exact⟨rfl,by rw[<- qQ l,J,qQ]⟩
open Classical in
noncomputable def pb (s:List UInt8):(List Bool×List Bool)×Int:=
 if 66<s.length then (([],[]),3) else if h:∃p:List Bool×List Bool,Ag s p.1 p.2 then (Classical.choose h,0) else (([],[]),5)
theorem wU {s:List UInt8} (h:66<s.length):pb s=(([],[]),3):=by unfold pb;rw[iG h]
theorem G5 {s:List UInt8} (hn:¬66<s.length) {h l:List Bool} (t:Ag s h l):pb s=((h,l),0):=by
 unfold pb;rw[iV hn];have j:∃p:List Bool×List Bool,Ag s p.1 p.2:=⟨(h,l),t⟩;rw[dif_pos j];have k:=Classical.choose_spec j;have:=LN (k.1.symm.trans t.1);rw[show Classical.choose j=(h,l) from Prod.ext this.1 this.2]
theorem Bg {s:List UInt8} (hn:¬66<s.length) (t:∀h l,¬Ag s h l):pb s=(([],[]),5):=by
 unfold pb;rw[iV hn,dif_neg];rintro⟨p,hp⟩;exact t _ _ hp
def KZ (l f r:List UInt8) (b:Bool):Prop:=(b=true->l=f++40::r/\40∉f)/\(b=false->40∉l)
theorem MH {l:List UInt8} {i:Nat} (h1:l[i]?=some 40) (h2:∀j,j<i->l[j]?≠some 40):KZ l (l.take i) (l.drop (i+1)) true:=by
 refine⟨fun _=>⟨?_,fun o=>?_⟩,fun e=>by cases e⟩
 ·obtain⟨J,e⟩:=rq.1 h1
  rw[<- e,<- MG J,Gv]
 obtain⟨j,I,e⟩:=List.getElem_of_mem o;rw[Fi]at I;refine h2 j iu ?_;rw[List.getElem_take]at e;rw[qn iu,e]
theorem BG (l:List UInt8) (c:UInt8):(Lib.indexByte l c=-1/\c∉l)\/∃i:Nat,Lib.indexByte l c=(i:Nat)/\i<l.length/\l[i]?=some c/\∀j,j<i->l[j]?≠some c:=by
 induction l with
 |nil=>exact .inl ⟨rfl,by simp⟩
 |cons b l ih=>
 unfold Lib.indexByte;by_cases o:b=c
 ·subst o
  exact .inr ⟨0,by simp,by simp,by simp,fun j I=>by omega⟩
 rw[iV (by simpa using o)];rcases ih with⟨h1,h2⟩ | ⟨i,h1,h2,h3,h4⟩
 ·rw[h1];exact .inl ⟨rfl,by simp[h2];exact fun e=>o e.symm⟩
 rw[h1];refine .inr ⟨i+1,?_,by simpa using h2,by simpa using h3,fun j I=>?_⟩
 ·rw[iV (by simp)];omega
 cases j with
 |zero=>simpa using o
 |succ j=>simpa using h4 j iu
theorem Jm {f r f' r':List UInt8} (h:40∉f) (h':40∉f') (e:f++40::r=f'++40::r'):f=f'/\r=r':=by
 induction f generalizing f' with
 |nil=>
  cases f' with
  |nil=>simp at e;exact⟨rfl,e⟩
  |cons a f'=>simp at e;exact absurd (by rw[<- e.1];simp) h'
 |cons a f ih=>
 cases f' with
 |nil=>simp at e;exact absurd (by rw[e.1];simp) h
 |cons b f'=>
 simp at e;obtain⟨rfl,e⟩:=e;obtain⟨rfl,rfl⟩:=ih (by simp at h;exact h.2) (by simp at h';exact h'.2) e;exact⟨rfl,rfl⟩
theorem Fo (h:List Bool):(40:UInt8)∉n_ h:=fun hm=>by have:=vH h _ hm;simp[xd]at this
def NR (r back:List UInt8) (b:Bool):Prop:=(b=true->r=back++[41])/\(b=false->∀x,r≠x++[41])
theorem Rm (r:List UInt8):NR r (Lib.trimSuffix r [41]) (Lib.hasSuffix r [41]):=by
 refine⟨fun h=>?_,fun h x e=>?_⟩
 ·unfold Lib.trimSuffix
  rw[iG h];unfold Lib.hasSuffix at h;rw[List.isSuffixOf_iff_suffix]at h;obtain⟨t,rfl⟩:=h;simp
 unfold Lib.hasSuffix at h;rw[<- Bool.not_eq_true,List.isSuffixOf_iff_suffix]at h;exact h ⟨x,e.symm⟩
theorem parts {l f r back:List UInt8} {b1 b2:Bool} {h k:List Bool} (hc:KZ l f r b1) (hs:NR r back b2) (t:Ag l h k):b1=true/\b2=true/\f=n_ h/\back=n_ k:=by
 obtain⟨e,I⟩:=t;rw[wO]at e;cases b1 with
 |false=>exact absurd (by rw[e];simp) (hc.2 rfl)
 |true=>
 obtain⟨o,j⟩:=hc.1 rfl;obtain⟨rfl,rfl⟩:=Jm j (Fo h) (o.symm.trans e);cases b2 with
 |false=>exact absurd rfl (hs.2 rfl _)
 |true=>exact⟨rfl,rfl,rfl,(List.append_cancel_right (hs.1 rfl)).symm⟩
theorem LR {l f r back:List UInt8} (hc:KZ l f r true) (hs:NR r back true) (h1:rB f=true) (h2:rB back=true) (hv:DS (pY f) (pY back)) (hn:¬66<l.length):pb l=((pY f,pY back),0):=by
 refine G5 hn ⟨?_,hv⟩;rw[wO,AZ h1,AZ h2,(hc.1 rfl).1,hs.1 rfl]
theorem wE {l f r back:List UInt8} {b1 b2:Bool} (hc:KZ l f r b1) (hs:NR r back b2) (hn:¬66<l.length) (h:b1=true->b2=true->rB f=true->rB back=true->¬DS (pY f) (pY back)):pb l=(([],[]),5):=by
 refine Bg hn fun a b t=>?_
 obtain⟨o,j,rfl,rfl⟩:=parts hc hs t;have:=h o j (xV _) (xV _);rw[qQ,qQ]at this;exact this t.2
end
section
open Go.Proofs.Tryz
theorem zB (s:ByteArray) (a b:Nat):(s.extract a b).data.toList=(s.data.toList.drop a).take (b-a):=by
 obtain⟨⟨l⟩⟩:=s;rw[ByteArray.extract_mk];first | done | simp
theorem RI (s:ByteArray) (w:World) (hs:s.size<=2000000) :
  Calls prog 189 #[s,.string ⟨#[40]⟩] w fun e w'=>∃(f r:ByteArray) (b:Bool),e=.returned (.tuple #[f,r,.bool b])/\KZ s.data.toList f.data.toList r.data.toList b/\f.size<=s.size/\r.size<=s.size/\ik w w':=by
 have hl:s.data.toList.length=s.size:=(ow rfl).symm;rcases BG s.data.toList 40 with⟨h1,j⟩ | ⟨i,h1,j,h3,h4⟩
 ·replace j:=iB j
  go_in;go_wp2_with fail;refine (stringslite_Index_one s 40 _).mono ?_;rintro e w' ⟨rfl,rfl⟩;rw[h1];go_wp2_with fail;go_ret3;exact⟨_,_,_,rfl,⟨fun e=>(by cases e),fun _=>j⟩,js _,wB _,inferInstance⟩
 have HC:=iB (MH h3 h4);have hi:i<s.size:=by omega
 have U:(i:Int)+1<=(s.size:Int):=by omega
 go_in;go_wp2_with fail;refine (stringslite_Index_one s 40 _).mono ?_;rintro e w' ⟨rfl,rfl⟩;rw[h1];have R:IntKind.i64.wrap ((i:Int)+1)=(i:Int)+1:=IntWalk.i64_in _ (by omega);have J:((i:Int)+1).toNat=i+1:=iu;go_wp2_with fail;go_quiet (fail);go_wp2_with fail;go_ret3;have I:(s.extract 0 i).data.toList=s.data.toList.take i:=by rw[zB];simp
 have o:(s.extract (i+1) s.size).data.toList=s.data.toList.drop (i+1):=by rw[zB,Dn (by rw[nY];omega)]
 refine⟨_,_,_,rfl,?_,?_,?_,inferInstance⟩
 ·rw[I,o]
  exact HC
 ·rw[ow I,Fi];omega
 rw[ow o,nY];omega
theorem Tn (s:ByteArray) (w:World) (hs:s.size<=2000000) :
  Calls prog 183 #[s,.string ⟨#[40]⟩] w fun e w'=>∃(f r:ByteArray) (b:Bool),e=.returned (.tuple #[f,r,.bool b])/\KZ s.data.toList f.data.toList r.data.toList b/\f.size<=s.size/\r.size<=s.size/\ik w w':=by
 go_in;go_wp2_with fail;refine (RI s _ hs).mono ?_;rintro e w' ⟨f,r,b,rfl,j,I,o,J⟩;replace j:=iy j;go_wp2_with fail;go_ret3;exact⟨f,r,b,rfl,j,I,o,J⟩
theorem Ta (s:ByteArray) (w:World) (hs:s.size<=2000000) :
  Calls prog 184 #[s,.string ⟨#[41]⟩] w fun e w'=>∃(r:ByteArray) (b:Bool),e=.returned (.tuple #[r,.bool b])/\NR s.data.toList r.data.toList b/\r.size<=s.size/\ik w w':=by
 refine (strings_CutSuffix s ⟨#[41]⟩ w (by omega)).mono ?_;rintro e w' ⟨rfl,rfl⟩;refine⟨_,_,rfl,Rm _,?_,inferInstance⟩;have j:(⟨(Lib.trimSuffix s.data.toList [41]).toArray⟩:ByteArray).size=(Lib.trimSuffix s.data.toList [41]).length:=rfl;have o:s.data.toList.length=s.size:=(ow rfl).symm;show (⟨(Lib.trimSuffix s.data.toList [41]).toArray⟩:ByteArray).size<=s.size
 rw[j];unfold Lib.trimSuffix;split
 ·rw[Fi];omega
 omega
theorem R' (s:ByteArray) (w:World) (hs:s.size<=2000000) :
  Calls prog 185 #[s] w fun e w'=>∃(A:Option Addr) (c:Nat) (l:List Bool) (b:Bool),e=.returned (.tuple #[.slice A l.length c,.bool b])/\RB w' A c l/\BM w.heap.size A/\Hid (b=rB s.data.toList)/\Hid (b=true->l=pY s.data.toList)/\ik w w':=by
 refine (It s w hs).mono ?_;rintro e w' (⟨h,A,c,rfl,x,n,y,rfl⟩ | ⟨h,rfl,y,rfl⟩)
 ·have j:s.size=(pY s.data.toList).length:=by rw[zM];exact ow rfl
  exact⟨A,c,_,true,by rw[j],x,n,h.symm,fun _=>rfl,iR⟩
 exact⟨none,0,[],false,rfl,uK _,(fun o e=>by cases e),h.symm,(fun e=>by cases e),iR⟩
theorem DC (s:ByteArray) (w:World) (hs:s.size<=140737488355328) :
  Calls prog 173 #[s] w fun e w'=>∃A c B d,e=.returned (.tuple #[.agg #[.slice A (pb s.data.toList).1.1.length c,.slice B (pb s.data.toList).1.2.length d],.int .i64 (pb s.data.toList).2])/\RW w' A c B d (pb s.data.toList).1.1 (pb s.data.toList).1.2/\∃y,w'=w.more y:=by
 have hl:s.data.toList.length=s.size:=(ow rfl).symm;by_cases ag:66<s.size
 ·have an:uD w w.heap.size:=inferInstance
  have I:=iB (wU (s:=s.data.toList) (by omega));have j:=iB (jC w 259 #[.slice none 0 0,.slice none 0 0]);have ah:(66:Int)<(s.size:Int):=by omega
  clear hl;go_in;go_wp2_with fail;have o:=(j.jx 0 (.slice none 0 0)).jx 1 (.slice none 0 0);have R:(((w.alloc (.cells #[.slice none 0 0,.slice none 0 0] 259)).setCell ⟨w.heap.size,0,none⟩ (.slice none 0 0)).setCell ⟨w.heap.size,1,none⟩ (.slice none 0 0)).cell? ⟨w.heap.size,0,none⟩=some (.slice none 0 0):=by rw[o.cell];rfl
  have J:(((w.alloc (.cells #[.slice none 0 0,.slice none 0 0] 259)).setCell ⟨w.heap.size,0,none⟩ (.slice none 0 0)).setCell ⟨w.heap.size,1,none⟩ (.slice none 0 0)).cell? ⟨w.heap.size,1,none⟩=some (.slice none 0 0):=by rw[o.cell];rfl
  refine jR (v:=.tuple #[.agg #[.slice none 0 0,.slice none 0 0],.int .i64 3]) (by simp[results,results173,go_sem,R,J]) rfl ⟨none,0,none,0,by rw[I.out];rfl,by rw[I.out];exact⟨uK _,uK _⟩,jP _ _⟩
 replace hs:s.size<=2000000:=by omega
 have hn:¬66<s.data.toList.length:=by omega
 have HN:=iB hn;have ah:(s.size:Int)<=66:=by omega
 obtain⟨g0,a8⟩:∃g0,w.heap.size=g0:=⟨_,rfl⟩;obtain⟨U,af,z,a1,aa⟩:∃U,(w.alloc (.cells #[.slice none 0 0,.slice none 0 0] 259))=U/\Hid (iP U g0 259 #[.slice none 0 0,.slice none 0 0])/\ik w U/\g0<U.heap.size:=⟨_,rfl,by rw[<- a8];exact jC _ _ _,inferInstance,by rw[<- a8];simp⟩;have ak:uD w g0:=⟨by omega⟩;clear hl hn;go_in;go_wp2_with fail;try rw[af]
 try rw[a8]
 clear af a8;refine (Tn s _ hs).mono ?_;rintro e w1 ⟨f,r,b1,rfl,hc,zf,zr,J⟩;have HC:=iB hc;clear hc;go_wp2_with fail;refine (Ta r _ (by omega)).mono ?_;rintro e w2 ⟨bk,b2,rfl,ae,zb,k2⟩;have HS:=iB ae;clear ae;go_wp2_with fail;refine (R' f _ (by omega)).mono ?_;rintro e w3 ⟨A5,c5,H5,b3,rfl,x5,n5,D5,E5,k3⟩;have X5:=iB x5;clear x5;go_wp2_with fail;refine (R' bk _ (by omega)).mono ?_;rintro e w4 ⟨A6,c6,H6,b4,rfl,x6,n6,D6,E6,k4⟩;have X6:=iB (RW.mk (X5.below k4.below) x6);clear x6;have q1:ik U w1:=J;have q2:ik U w2:=ij q1 k2;have q3:ik U w3:=ij q2 k3;have q4:ik U w4:=ij q3 k4;have m5:BM (g0+1) A5:=n5.mono (jW aa q2.below.size);have m6:BM (g0+1) A6:=n6.mono (jW aa q3.below.size);obtain⟨g5,ai⟩:∃g,w4.heap.size=g:=⟨_,rfl⟩;obtain⟨W5,ao,b5,a5,r5⟩:∃W5,w4.alloc (.cells #[.slice A5 H5.length c5,.slice A6 H6.length c6] 259)=W5/\Hid (iP W5 g5 259 #[.slice A5 H5.length c5,.slice A6 H6.length c6])/\ik U W5/\Hid (RW W5 A5 c5 A6 c6 H5 H6):=⟨_,rfl,by rw[<- ai];exact jC _ _ _,ij q4 inferInstance,X6.here _⟩;have au:ik w W5:=ij a1 a5;have e0:W5.cell? g5=some (.slice A5 H5.length c5):=by rw[b5.out.cell];rfl
 have e1:W5.cell? ⟨g5,1,none⟩=some (.slice A6 H6.length c6):=by rw[b5.out.cell];rfl
 have l5:=b5.is_le;cases b1
 ·have I:=iB (wE HC HS HN (fun e=>by cases e))
  have j:=iB (z.after (w':=W5));have d0:W5.cell? g0=some (.slice none 0 0):=by rw[j.out.cell];rfl
  have d1:W5.cell? ⟨g0,1,none⟩=some (.slice none 0 0):=by rw[j.out.cell];rfl
  have f0:=j.frozen 0;have f1:=j.frozen 1;have l6:=j.is_le;go_wp2_with fail;have o:=(j.jx 0 (.slice none 0 0)).jx 1 (.slice none 0 0);have R:((W5.setCell g0 (.slice none 0 0)).setCell ⟨g0,1,none⟩ (.slice none 0 0)).cell? g0=some (.slice none 0 0):=by rw[o.cell];rfl
  have J:((W5.setCell g0 (.slice none 0 0)).setCell ⟨g0,1,none⟩ (.slice none 0 0)).cell? ⟨g0,1,none⟩=some (.slice none 0 0):=by rw[o.cell];rfl
  refine jR (v:=.tuple #[.agg #[.slice none 0 0,.slice none 0 0],.int .i64 5]) (by simp[results,results173,go_sem,R,J]) rfl ⟨none,0,none,0,by rw[I.out];rfl,by rw[I.out];exact⟨uK _,uK _⟩,jP _ _⟩
 cases b2
 ·have I:=iB (wE HC HS HN (fun _ e=>by cases e))
  have j:=iB (z.after (w':=W5));have d0:W5.cell? g0=some (.slice none 0 0):=by rw[j.out.cell];rfl
  have d1:W5.cell? ⟨g0,1,none⟩=some (.slice none 0 0):=by rw[j.out.cell];rfl
  have f0:=j.frozen 0;have f1:=j.frozen 1;have l6:=j.is_le;go_wp2_with fail;have o:=(j.jx 0 (.slice none 0 0)).jx 1 (.slice none 0 0);have R:((W5.setCell g0 (.slice none 0 0)).setCell ⟨g0,1,none⟩ (.slice none 0 0)).cell? g0=some (.slice none 0 0):=by rw[o.cell];rfl
  have J:((W5.setCell g0 (.slice none 0 0)).setCell ⟨g0,1,none⟩ (.slice none 0 0)).cell? ⟨g0,1,none⟩=some (.slice none 0 0):=by rw[o.cell];rfl
  refine jR (v:=.tuple #[.agg #[.slice none 0 0,.slice none 0 0],.int .i64 5]) (by simp[results,results173,go_sem,R,J]) rfl ⟨none,0,none,0,by rw[I.out];rfl,by rw[I.out];exact⟨uK _,uK _⟩,jP _ _⟩
 cases b3
 ·have I:=iB (wE HC HS HN (fun _ _ e=>by rw[<- D5.out]at e;cases e))
  have j:=iB (z.after (w':=W5));have d0:W5.cell? g0=some (.slice none 0 0):=by rw[j.out.cell];rfl
  have d1:W5.cell? ⟨g0,1,none⟩=some (.slice none 0 0):=by rw[j.out.cell];rfl
  have f0:=j.frozen 0;have f1:=j.frozen 1;have l6:=j.is_le;go_wp2_with fail;have o:=(j.jx 0 (.slice none 0 0)).jx 1 (.slice none 0 0);have R:((W5.setCell g0 (.slice none 0 0)).setCell ⟨g0,1,none⟩ (.slice none 0 0)).cell? g0=some (.slice none 0 0):=by rw[o.cell];rfl
  have J:((W5.setCell g0 (.slice none 0 0)).setCell ⟨g0,1,none⟩ (.slice none 0 0)).cell? ⟨g0,1,none⟩=some (.slice none 0 0):=by rw[o.cell];rfl
  refine jR (v:=.tuple #[.agg #[.slice none 0 0,.slice none 0 0],.int .i64 5]) (by simp[results,results173,go_sem,R,J]) rfl ⟨none,0,none,0,by rw[I.out];rfl,by rw[I.out];exact⟨uK _,uK _⟩,jP _ _⟩
 cases b4
 ·have I:=iB (wE HC HS HN (fun _ _ _ e=>by rw[<- D6.out]at e;cases e))
  have j:=iB (z.after (w':=W5));have d0:W5.cell? g0=some (.slice none 0 0):=by rw[j.out.cell];rfl
  have d1:W5.cell? ⟨g0,1,none⟩=some (.slice none 0 0):=by rw[j.out.cell];rfl
  have f0:=j.frozen 0;have f1:=j.frozen 1;have l6:=j.is_le;go_wp2_with fail;have o:=(j.jx 0 (.slice none 0 0)).jx 1 (.slice none 0 0);have R:((W5.setCell g0 (.slice none 0 0)).setCell ⟨g0,1,none⟩ (.slice none 0 0)).cell? g0=some (.slice none 0 0):=by rw[o.cell];rfl
  have J:((W5.setCell g0 (.slice none 0 0)).setCell ⟨g0,1,none⟩ (.slice none 0 0)).cell? ⟨g0,1,none⟩=some (.slice none 0 0):=by rw[o.cell];rfl
  refine jR (v:=.tuple #[.agg #[.slice none 0 0,.slice none 0 0],.int .i64 5]) (by simp[results,results173,go_sem,R,J]) rfl ⟨none,0,none,0,by rw[I.out];rfl,by rw[I.out];exact⟨uK _,uK _⟩,jP _ _⟩
 have a':=E5 rfl;have a_:=E6 rfl;rcases GR H5 H6 with hv | ⟨hv,h5⟩
 ·have I:Hid (pb s.data.toList=((H5,H6),0)):=by subst a';subst a_;exact LR HC HS D5.symm D6.symm hv HN
  have ab:=iB (Hl hv);clear a' a_ hv;go_wp2_with fail;refine (Dz r5.out _ ab.out).mono ?_;rintro e w6 ⟨rfl,y6,a7⟩;have a6:ik W5 w6:=by rw[a7];infer_instance
  have ad:ik U w6:=ij a5 a6;have aj:ik w w6:=ij a1 ad;clear a7;have b6:=iB (b5.after (w':=w6));have ar:w6.cell? g5=some (.slice A5 H5.length c5):=by rw[b6.out.cell];rfl
  have aq:w6.cell? ⟨g5,1,none⟩=some (.slice A6 H6.length c6):=by rw[b6.out.cell];rfl
  have al:=b6.is_le;have j:=iB (z.after (w':=w6));have d0:w6.cell? g0=some (.slice none 0 0):=by rw[j.out.cell];rfl
  have d1:w6.cell? ⟨g0,1,none⟩=some (.slice none 0 0):=by rw[j.out.cell];rfl
  have f0:=j.frozen 0;have f1:=j.frozen 1;have l6:=j.is_le;go_wp2_with fail;have o:=(j.jx 0 (.slice A5 H5.length c5)).jx 1 (.slice A6 H6.length c6);have R:((w6.setCell g0 (.slice A5 H5.length c5)).setCell ⟨g0,1,none⟩ (.slice A6 H6.length c6)).cell? g0=some (.slice A5 H5.length c5):=by rw[o.cell];rfl
  have J:((w6.setCell g0 (.slice A5 H5.length c5)).setCell ⟨g0,1,none⟩ (.slice A6 H6.length c6)).cell? ⟨g0,1,none⟩=some (.slice A6 H6.length c6):=by rw[o.cell];rfl
  refine jR (v:=.tuple #[.agg #[.slice A5 H5.length c5,.slice A6 H6.length c6],.int .i64 0]) (by simp[results,results173,go_sem,R,J]) rfl ⟨A5,c5,A6,c6,by rw[I.out],by rw[I.out];exact⟨((r5.head.here w6).jx m5 (by omega) 0 _).jx m5 (by omega) 1 _,((r5.loop.here w6).jx m6 (by omega) 0 _).jx m6 (by omega) 1 _⟩,jP _ _⟩
 have I:Hid (pb s.data.toList=(([],[]),5)):=by subst a';subst a_;exact wE HC HS HN fun _ _ _ _=>hv
 clear a' a_;rcases h5 with h5 | h5
 all_goals
  have ab:=iB h5;clear h5;go_wp2_with fail;refine (Dz r5.out _ ab.out).mono ?_;rintro e w6 ⟨rfl,y6,a7⟩;have a6:ik W5 w6:=by rw[a7];infer_instance
  have ad:ik U w6:=ij a5 a6;have aj:=ij a1 ad;clear a7;have j:=iB (z.after (w':=w6));have d0:w6.cell? g0=some (.slice none 0 0):=by rw[j.out.cell];rfl
  have d1:w6.cell? ⟨g0,1,none⟩=some (.slice none 0 0):=by rw[j.out.cell];rfl
  have f0:=j.frozen 0;have f1:=j.frozen 1;have l6:=j.is_le;go_wp2_with fail;have o:=(j.jx 0 (.slice none 0 0)).jx 1 (.slice none 0 0);have R:((w6.setCell g0 (.slice none 0 0)).setCell ⟨g0,1,none⟩ (.slice none 0 0)).cell? g0=some (.slice none 0 0):=by rw[o.cell];rfl
  have J:((w6.setCell g0 (.slice none 0 0)).setCell ⟨g0,1,none⟩ (.slice none 0 0)).cell? ⟨g0,1,none⟩=some (.slice none 0 0):=by rw[o.cell];rfl
  refine jR (v:=.tuple #[.agg #[.slice none 0 0,.slice none 0 0],.int .i64 5]) (by simp[results,results173,go_sem,R,J]) rfl ⟨none,0,none,0,by rw[I.out];rfl,by rw[I.out];exact⟨uK _,uK _⟩,jP _ _⟩
end
section
open Go.Proofs.Tryz
noncomputable def xJ (a b c d e:Bool) (o:Int) (s:ByteArray):Int:=
 if a=false\/c=false\/b=!(decide (o≠0))\/b=true/\(o<1\/16<o) then 5
 else if d=true then (if kT s=true then 0 else 6)
 else if e=true then (if (pb s.data.toList).2=0 then 0 else 5)
 else if s.toList.isEmpty=true then 0 else 5
noncomputable def Ay (k o t v:Int) (s:ByteArray) (n:Nat):Int:=
 if 64<n then 3 else xJ (fA k o t v n) (fO k) (fT k t v) (fN k) (fW k) o s
theorem PJ {k o t v:Int} {s:ByteArray} {A:Option Addr} {n c:Nat} (hn:n<=140737488355328) (hs:s.size<=140737488355328) (w:World) :
  Calls prog 160 #[.agg #[k,o,t,v,s,.slice A n c]] w fun e w'=>e=.returned (.int .i64 (Ay k o t v s n))/\ik w w':=by
 have I:Hid (∀w,Calls prog 172 #[.agg #[k,o,t,v,s,.slice A n c]] w fun e w'=>e=.returned (.agg #[.bool (fA k o t v n),.bool (fO k),.bool (fT k t v),.bool (fN k),.bool (fW k)])/\ik w w'):=iy fun w=>Q1 hn w
 unfold Ay;generalize fA k o t v n=a at I⊢;generalize fO k=b at I⊢;generalize fT k t v=c' at I⊢;generalize fN k=d at I⊢;generalize fW k=e' at I⊢;go_in;by_cases j:64<n
 ·have R:(64:Int)<n:=iu
  go_wp2;go_ret;exact⟨by simp[j],iR⟩
 have R:¬(64:Int)<n:=iu;go_wp2_with fail;refine (I _).mono ?_;rintro _ w1 ⟨rfl,J⟩;obtain⟨y,rfl⟩:=@jP _ _ J;cases a
 ·go_wp2_with fail
  all_goals
   go_ret;exact⟨by simp[j,xJ],iR⟩
 cases c'
 ·go_wp2_with fail
  all_goals
   go_ret;exact⟨by simp[j,xJ],iR⟩
 by_cases h0:o=0
 ·subst h0
  cases b
  ·go_wp2_with fail
   all_goals first
    |(go_ret;exact⟨by simp_all [xJ],iR⟩)
    |(refine (Ap _ iu _).mono ?_
      rintro _ w2 ⟨rfl,J⟩;obtain⟨U,rfl⟩:=@jP _ _ J;go_wp2_with fail;all_goals
       go_ret;exact⟨by simp_all [xJ],iR⟩)
    |(refine (DC _ _ hs).mono ?_
      rintro _ w2 ⟨A2,c2,B2,d2,rfl,a1,U,rfl⟩;go_wp2_with fail;all_goals
       go_ret;exact⟨by simp_all [xJ],iR⟩)
  go_wp2_with fail;all_goals
   go_ret;exact⟨by simp[j,xJ],iR⟩
 cases b
 ·go_wp2_with fail
  all_goals
   go_ret;exact⟨by simp[j,xJ,h0],iR⟩
 by_cases h1:o<1\/16<o
 ·go_wp2_with fail
  all_goals
   go_ret;exact⟨by simp[j,xJ,h0,h1],iR⟩
 have h2:¬o<1:=iu;have h3:¬16<o:=iu;go_wp2_with fail;all_goals first
  |(go_ret;exact⟨by simp_all [xJ],iR⟩)
  |(refine (Ap _ iu _).mono ?_
    rintro _ w2 ⟨rfl,J⟩;obtain⟨U,rfl⟩:=@jP _ _ J;go_wp2_with fail;all_goals
     go_ret;exact⟨by simp_all [xJ],iR⟩)
  |(refine (DC _ _ hs).mono ?_
    rintro _ w2 ⟨A2,c2,B2,d2,rfl,a1,U,rfl⟩;go_wp2_with fail;all_goals
     go_ret;exact⟨by simp_all [xJ],iR⟩)
end
end Go.Proofs.YtnigblndonocfaaGreatDoor
