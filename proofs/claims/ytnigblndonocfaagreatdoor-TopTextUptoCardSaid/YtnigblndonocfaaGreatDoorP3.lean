/- A part of the proof. -/
import Derived.Test.YtnigblndonocfaaGreatDoorP2
import Derived.Lib.ItoaNum
import Derived.Lib.ItoaLen
import Derived.Lib.Strings
import Derived.Lib.Bytealg
import Derived.RangeFuncNested
import Derived.RangeFuncBound
import Derived.RangeFuncCalls
import Derived.RangeFuncLeaves
import Derived.RangeFuncFrom
import Derived.Shelf.Abstract
import Derived.Shelf.RegionOpen
import Derived.OwnWalkIn
import Derived.TacticsInMore
import Derived.LoopNIn
import Derived.LoopIn
set_option linter.unusedVariables false
set_option linter.unusedSimpArgs false
namespace Go.Proofs.YtnigblndonocfaaGreatDoor
set_option maxRecDepth 100000
set_option maxHeartbeats 4000000
open Go.RowKit Go.BigFrame Go.Proofs.Tryz
def xF (u:Nat):yB:=⟨(Lib.decDigits u).toArray⟩
theorem qV (u:Nat):(xF u).data.toList=Lib.decDigits u:=rfl
theorem Aa {u:Nat} (h:u<10):Lib.decDigits u=[UInt8.ofNat (48+u)]:=Lib.decDigits_one h
theorem Av {u:Nat} (h:10<=u):Lib.decDigits u=Lib.decDigits (u / 10)++[UInt8.ofNat (48+u % 10)]:=by
 rw[Lib.decDigits,dif_neg iu]
theorem Is (n:Int) (a b:List UInt8):ud n (a++b)=ud (ud n a) b:=List.foldl_append ..
theorem EX {d:Nat} (h:d<10):(UInt8.ofNat (48+d)).toNat=48+d:=by
 rw[UInt8.toNat_ofNat'];omega
theorem yF:∀(k u:Nat),u<10 ^ k->0<k->ud 0 (Lib.decDigits u)=(u:Int)
 |0,u,h,h0=>by omega
 |k+1,u,h,h0=>by
  rcases qa u 10 with hu | hu
  ·rw[Aa hu]
   show 10*0+(((UInt8.ofNat (48+u)).toNat:Nat)-48:Int)=u
   rw[EX hu];omega
  have hk:0<k:=by
   rcases Nat.eq_zero_or_pos k with e | e
   ·subst e;simp at h;omega
   exact e
  rw[Av hu,Is,yF k (u / 10) (by rw[Nat.pow_succ]at h;omega) hk];show 10*((u / 10:Nat):Int)+(((UInt8.ofNat (48+u % 10)).toNat:Nat)-48:Int)=u
  rw[EX iu];omega
theorem Hm {u:Nat} (h:u<=32768):rY (xF u)=(u:Int):=yF 5 u iu iI
theorem H8:∀d:Nat,d<10->jw ((UInt8.ofNat (48+d)).toNat:Nat)=true:=iI
theorem KH:∀(k u:Nat),u<10 ^ k->0<k->(Lib.decDigits u).all (fun c=>jw c.toNat)=true/\0<(Lib.decDigits u).length/\(Lib.decDigits u).length<=k/\(10<=u->(Lib.decDigits u).headD 0≠48)/\(0<u->(Lib.decDigits u).headD 0≠48)
 |0,u,h,h0=>by omega
 |k+1,u,h,h0=>by
  rcases qa u 10 with hu | hu
  ·rw[Aa hu]
   refine⟨by rw[Bh,List.all_nil,Bool.and_true];exact H8 u hu,by simp,by simp,fun h=>by omega,fun hp=>?_⟩;intro e;have:(UInt8.ofNat (48+u)).toNat=48:=by rw[show UInt8.ofNat (48+u)=48 from e];rfl
   rw[EX hu]at this;omega
  have hk:0<k:=by
   rcases Nat.eq_zero_or_pos k with e | e
   ·subst e;simp at h;omega
   exact e
  obtain⟨J,I,U,R,o⟩:=KH k (u / 10) (by rw[Nat.pow_succ]at h;omega) hk;rw[Av hu];have j:(Lib.decDigits (u / 10)++[UInt8.ofNat (48+u % 10)]).headD 0=(Lib.decDigits (u / 10)).headD 0:=by
   cases hx:Lib.decDigits (u / 10) with
   |nil=>rw[hx]at I;simp at I
   |cons a l=>rfl
  refine⟨by rw[He,J,Bh,List.all_nil,Bool.and_true,xI];exact H8 (u % 10) iu,by simp,by rw[mo];simp;omega,fun _=>by rw[j];exact o iu,fun _=>by rw[j];exact o iu⟩
theorem Cy {c:UInt8} (h:jw c.toNat=true):48<=c.toNat/\c.toNat<=57:=by
 unfold jw at h;simp only[mT,decide_eq_true_eq]at h;omega
theorem yk:∀(a:List UInt8) (m:Int),a.all (fun c=>jw c.toNat)=true->m*10 ^ a.length<=ud m a/\ud m a<(m+1)*10 ^ a.length
 |[],m,_=>by
  show m*10 ^ 0<=m/\m<(m+1)*10 ^ 0
  simp;omega
 |c::a,m,h=>by
  simp only[Bh,mT]at h;have hd:=Cy h.1;have ih:=yk a (10*m+((c.toNat:Nat)-48:Int)) h.2;have e:ud m (c::a)=ud (10*m+((c.toNat:Nat)-48:Int)) a:=rfl;rw[e,py,Int.pow_succ];have hp:(0:Int)<10 ^ a.length:=Int.pow_pos (by decide);generalize (10:Int) ^ a.length=P at ih hp⊢;refine⟨Int.le_trans ?_ ih.1,Int.lt_of_lt_of_le ih.2 ?_⟩
  ·have:(m*10)*P<=(10*m+((c.toNat:Nat)-48:Int))*P:=Int.mul_le_mul_of_nonneg_right iu iu
   rw[show m*(P*10)=(m*10)*P by rw[Int.mul_comm P 10,<- Int.mul_assoc]];exact this
  have:(10*m+((c.toNat:Nat)-48:Int)+1)*P<=((m+1)*10)*P:=Int.mul_le_mul_of_nonneg_right iu iu;rw[show (m+1)*(P*10)=((m+1)*10)*P by rw[Int.mul_comm P 10,<- Int.mul_assoc]];exact this
theorem AY:∀(a b:List UInt8) (m:Int),a.length=b->a.all (fun c=>jw c.toNat)=true->b.all (fun c=>jw c.toNat)=true->ud m a<ud m b->Op.bytesLess a b=true
 |[],[],m,_,_,_,h=>absurd h (Int.lt_irrefl _)
 |[],y::b,m,hl,_,_,_=>by simp at hl
 |x::a,[],m,hl,_,_,_=>by simp at hl
 |x::a,y::b,m,hl,ha,hb,h=>by
  simp only[Bh,mT]at ha hb;have hx:=Cy ha.1;have hy:=Cy hb.1;rw[Op.bytesLess];have e1:ud m (x::a)=ud (10*m+((x.toNat:Nat)-48:Int)) a:=rfl;have e2:ud m (y::b)=ud (10*m+((y.toNat:Nat)-48:Int)) b:=rfl;rw[e1,e2]at h;rcases Nat.lt_trichotomy x.toNat y.toNat with hc | hc | hc
  ·have:x<y:=UInt8.lt_iff_toNat_lt.2 hc
   simp[this]
  ·have hxy:=UInt8.toNat_inj.1 hc
   subst hxy;have ih:=AY a b _ (by simpa using hl) ha.2 hb.2 h;simp[ih]
  exfalso;have r1:=(yk a (10*m+((x.toNat:Nat)-48:Int)) ha.2).1;have r2:=(yk b (10*m+((y.toNat:Nat)-48:Int)) hb.2).2;have hl2:a.length=b:=by simpa using hl
  rw[hl2]at r1;have hp:(0:Int)<10 ^ b.length:=Int.pow_pos (by decide);generalize (10:Int) ^ b.length=P at r1 r2 hp;have:(10*m+((y.toNat:Nat)-48:Int)+1)*P<=(10*m+((x.toNat:Nat)-48:Int))*P:=Int.mul_le_mul_of_nonneg_right iu iu;omega
theorem Bv:Lib.decDigits 32768=[51,50,55,54,56]:=by
 rw[Av iI,Av iI,Av iI,Av iI,Aa iI];decide
theorem JN {u:Nat} (h:u<=32768):Ri (xF u)=true:=by
 obtain⟨U,h2,h3,h4,-⟩:=KH 5 u iu iI;have hs:(xF u).size=(Lib.decDigits u).length:=by rw[<- jr,qV]
 have hb:qM (xF u) 0=(((Lib.decDigits u).headD 0).toNat:Nat):=by unfold qM;rw[qV,sS]
 unfold Ri;rw[hs,qV,U,hb];have c1:(decide (1<(Lib.decDigits u).length)&&(((Lib.decDigits u).headD 0).toNat:Int)==48)=false:=by
  rcases qa u 10 with j | j
  ·rw[Aa j];rfl
  have I:((((Lib.decDigits u).headD 0).toNat:Int)==48)=false:=by
   rw[beq_eq_false_iff_ne];intro e;apply h4 j;apply UInt8.toNat_inj.1;show _=48
   omega
  rw[I,qT]
 have c2:(decide (5<(Lib.decDigits u).length)||(decide ((Lib.decDigits u).length=5)&&Ft (xF u)))=false:=by
  rw[decide_eq_false iu,Bool.false_or];by_cases R:(Lib.decDigits u).length=5
  ·have o:Ft (xF u)=false:=by
    unfold Ft;rw[nC,qV];rcases qa u 32768 with j | j
    ·have hm:(Lib.decDigits 32768).all (fun c=>jw c.toNat)=true:=by rw[Bv];decide
     have J:=AY (Lib.decDigits u) (Lib.decDigits 32768) 0 (by rw[R,Bv];rfl) U hm (by rw[yF 5 u iu iI,yF 5 32768 iI iI];omega);rw[Bv]at J;rw[J];rfl
    obtain rfl:u=32768:=iu;rw[Bv];rfl
   rw[o,qT]
  rw[decide_eq_false R,qu]
 rw[c1,c2,lp h2];rfl
def mB (l:List UInt8):Pc:=.tk ⟨3,⟨l.toArray⟩⟩
def mf (l:List UInt8):Pc:=.tk ⟨4,⟨l.toArray⟩⟩
def rM (s:yB):Pc:=.tk ⟨1,s⟩
def So (s:yB):Pc:=.tk ⟨5,s⟩
def wm (el:List iW) (t v:Int):List Pc:=
 if t=1 then (if v=1 then [mB [116,114,117,101]] else [mB [102,97,108,115,101]])
 else if t=2 then (if v<0 then [mf [45],.tk ⟨2,xF v.natAbs⟩] else [.tk ⟨2,xF v.toNat⟩])
 else match el[(t-3).toNat]? with | some u=>[rM (u.tags.l.getD v.toNat ⟨#[]⟩)] | none=>[]
theorem kH (l:List UInt8) (ps:List Pc):iY (mB l::ps)=l++iY ps:=rfl
theorem jl (l:List UInt8) (ps:List Pc):iY (mf l::ps)=l++iY ps:=rfl
theorem lQ (s:yB) (ps:List Pc):iY (rM s::ps)=s.data.toList++iY ps:=rfl
theorem NQ (s:yB) (ps:List Pc):iY (So s::ps)=39::(s.data.toList++[39])++iY ps:=rfl
theorem Cm (s:yB) (ps:List Pc):iY (.tk ⟨2,s⟩::ps)=s.data.toList++iY ps:=rfl
theorem jn (c:UInt8) (ps:List Pc):iY (.sp c::ps)=c::iY ps:=rfl
theorem ja:iY []=[]:=rfl
theorem Oz:Lib.formatBool true=[116,114,117,101]:=by decide +kernel
theorem Mp:Lib.formatBool false=[102,97,108,115,101]:=by decide +kernel
theorem PC (el:List iW) (t v:Int):iY (wm el t v)=PQ el t v:=by
 unfold wm PQ;by_cases I:t=1
 ·rw[iG I,iG I]
  by_cases j:v=1
  ·rw[iG j,j];exact Oz.symm
  rw[iV j,show (v==1)=false by simpa using j];exact Mp.symm
 rw[iV I,iV I];by_cases o:t=2
 ·rw[iG o,iG o]
  unfold Lib.itoa;by_cases j:v<0
  ·rw[iG j,iG j,jl,Cm,qV,ja,oV];rfl
  rw[iV j,iV j,Cm,qV,ja,oV]
 rw[iV o,iV o];cases el[(t-3).toNat]? with
 |none=>rfl
 |some u=>exact oV _
structure Ar where
 p:Bool
 c:Bool
 l:List Pc
def Ar.none_:Ar:=⟨true,false,[]⟩
def pF (L:List Ar) (i:Nat):Ar:=L.getD i Ar.none_
def kM (a:Ar):List Pc:=if a.p then a.l else mf [40]::(a.l++[mf [41]])
def z_ (o:Int):Pc:=
 if o=3 then mB [97,110,100] else if o=4 then mB [111,114] else if o=5 then mB [120,111,114] else if o=6 then mf [43] else if o=7 then mf [45] else if o=8 then mf [42] else if o=9 then mf [47]
 else if o=10 then mB [109,111,100] else if o=11 then mf [61] else if o=12 then mf [60,62] else if o=13 then mf [60] else if o=14 then mf [60,61] else if o=15 then mf [62] else if o=16 then mf [62,61] else .sp 32
def EA (o:Int) (L:List Ar):List Pc:=
 if o=1 then mB [110,111,116]::.sp 32::kM (pF L 0)
 else if o=2 then (if (pF L 0).c then mf [45]::mf [40]::((pF L 0).l++[mf [41]]) else mf [45]::kM (pF L 0))
 else kM (pF L 0)++.sp 32::z_ o::.sp 32::kM (pF L 1)
def wj (el:List iW) (t:Int):Nat->List Ar->List Pc
 |_,[]=>[]
 |i,a::l=>.sp 32::mf [40]::(wm el t (if t=1 then 1-(i:Int) else i)++.sp 32::mf [45,62]::.sp 32::(a.l++mf [41]::wj el t (i+1) l))
def mq (sep:List Pc):List (List Pc)->List Pc
 |[]=>[]
 |[a]=>a
 |a::b::l=>a++sep++mq sep (b::l)
def qR:List Pc:=[mf [44],.sp 32]
def FX (el:List iW) (t v:Int) (s:yB):List Pc:=mB [119,104,101,110]::.sp 32::(wm el t v++[mf [40],rM s,mf [41]])
def AU (v:Int) (s:yB) (L:List Ar):List Pc:=
 rM s::mf [40]::(mq qR ((L.take (L-v.toNat)).map Ar.l)++mf [41]::(if v=1 then .sp 32::mB [101,118,101,114,121]::.sp 32::kM (pF L (L-1)) else []))
def uF (el:List iW) (k o t v:Int) (s:yB) (L:List Ar):List Pc:=
 if k=1 then wm el t v
 else if k=3 then EA o L
 else if k=4 then mB [105,102]::.sp 32::((pF L 0).l++.sp 32::mB [116,104,101,110]::.sp 32::((pF L 1).l++.sp 32::mB [101,108,115,101]::.sp 32::(pF L 2).l))
 else if k=5 then mB [112,114,101]::.sp 32::kM (pF L 0)
 else if k=6 then kM (pF L 0)++.sp 32::mf [45,62]::.sp 32::kM (pF L 1)
 else if k=7 then kM (pF L 0)++.sp 32::mB [102,98,121]::.sp 32::kM (pF L 1)
 else if k=8 then kM (pF L 0)++.sp 32::FX el t v s
 else if k=9 then mB [109,101,114,103,101]::.sp 32::rM s::wj el t 0 (if t=1 then L.reverse else L)
 else if k=10 then AU v s L
 else if k=11 then [So s]
 else [rM s]
def kb:Ex->Bool
 |.mk k o t v s xs=>k==2||k==11||k==10||(k==1&&(!(t==2)||decide (0<=v)))
def kG:Ex->Bool
 |.mk k o t v s xs=>k==1&&t==2
mutual
def kX (el:List iW):Ex->List Pc
 |.mk k o t v s xs=>uF el k o t v s (jy el xs)
def jy (el:List iW):List Ex->List Ar
 |[]=>[]
 |x::xs=>⟨kb x,kG x,kX el x⟩::jy el xs
end
theorem nD (el:List iW):∀xs:List Ex,(jy el xs).length=xs.length
 |[]=>by rw[jy];rfl
 |x::xs=>by rw[jy,py,py,nD el xs]
theorem F9 (el:List iW):∀(xs:List Ex) (i:Nat),(jy el xs)[i]?=(xs[i]?).map fun x=>⟨kb x,kG x,kX el x⟩
 |[],i=>by rw[jy];simp
 |x::xs,0=>by rw[jy];rfl
 |x::xs,i+1=>by rw[jy,List.getElem?_cons_succ,List.getElem?_cons_succ,F9 el xs i]
theorem pz (el:List iW) {xs:List Ex} {i:Nat} {x:Ex} (h:xs[i]?=some x):pF (jy el xs) i=⟨kb x,kG x,kX el x⟩:=by
 unfold pF;rw[wC,F9,h];rfl
section
open Go.Proofs.Tryz
def uT (t v:Int):Bool:=t==1&&(v==0||v==1)||decide (3<=t)&&decide (0<=v)&&decide (v<16)
def lu (t n:Int):Bool:=t==1&&n==2||decide (3<=t)&&decide (1<=n)&&decide (n<=16)
def kY (o:Int):Int:=if o==1||o==2 then 1 else 2
theorem Gm (t v:Int) (w:yM):Calls prog 180 #[t,v] w fun e w'=>e=.returned (.bool (uT t v))/\w=w':=by
 go_in;go_wp2;all_goals
  go_ret;exact⟨iK (by unfold uT;apply Bool.eq_iff_iff.2;simp at *;omega),rfl⟩
theorem Fc (t n:Int) (w:yM):Calls prog 182 #[t,n] w fun e w'=>e=.returned (.bool (lu t n))/\w=w':=by
 go_in;go_wp2;all_goals
  go_ret;exact⟨iK (by unfold lu;apply Bool.eq_iff_iff.2;simp at *;omega),rfl⟩
theorem ES (o:Int) (w:yM):Calls prog 181 #[o] w fun e w'=>e=.returned (.int .i64 (kY o))/\w=w':=by
 go_in;go_wp2;all_goals
  go_ret;exact⟨Ky (by unfold kY;simp at *;(try split)<;>omega),rfl⟩
def mG (t v:Int):Bool:=t==0&&v==0
def fA (k o t v n:Int):Bool:=
 if k==1||k==2||k==11 then n==0 else if k==3 then n==kY o else if k==4 then n==3 else if k==5||k==8 then n==1 else if k==6||k==7 then n==2 else if k==9 then t != 2&&lu t n else if k==10 then decide (v<=n) else false
def fO (k:Int):Bool:=k==3
def fT (k t v:Int):Bool:=
 if k==1 then (t==2&&decide (-32768<=v)&&decide (v<=32767))||(t != 2&&uT t v) else if k==8 then t != 2&&uT t v else if k==9 then v==0 else if k==10 then t==0&&(v==0||v==1) else if decide (2<=k)&&decide (k<=11) then mG t v else false
def fN (k:Int):Bool:=k==2||k==8||k==9||k==10
def fW (k:Int):Bool:=k==11
theorem mn {P:Program} {fn:Func} {a:Act} {w0 w':yM} {x1 x2 x3 x4 x5 y1 y2 y3 y4 y5:Bool}
  (hr:(results fn a.tmps).run P w'=.ok (.agg #[x1,x2,x3,x4,x5]) w') (hd:a.defers=[]) (ha:ik w0 w')
  (h:x1=y1/\x2=y2/\x3=y3/\x4=y4/\x5=y5):bodyPost P fn (fun e w''=>e=.returned (.agg #[y1,y2,y3,y4,y5])/\ik w0 w'') .ret a w':=by
 obtain⟨rfl,rfl,rfl,rfl,rfl⟩:=h;exact jR hr hd ⟨rfl,ha⟩
theorem Q1 {k o t v:Int} {s:yB} {A:zA} {n c:Nat} (hn:n<=140737488355328) (w:yM) :
  Calls prog 172 #[.agg #[k,o,t,v,s,(A,n,c)]] w fun e w'=>e=.returned (.agg #[(fA k o t v n),(fO k),(fT k t v),(fN k),(fW k)])/\ik w w':=by
 go_in;by_cases k1:k=1
 ·subst k1
  go_wp2_with fail;all_goals first
   |(refine mn (by (simp[results,results172,go_sem];exact⟨rfl,rfl,rfl,rfl,rfl⟩)) rfl iR ?_;simp[fA,fO,fT,fN,fW,mG,uT,lu,kY, *]<;>(try omega))
   |(refine (Gm _ _ _).mono ?_
     rintro e w' ⟨rfl,rfl⟩;go_wp2_with fail;all_goals (refine mn (by (simp[results,results172,go_sem];exact⟨rfl,rfl,rfl,rfl,rfl⟩)) rfl iR ?_;simp[fA,fO,fT,fN,fW,mG,uT,lu,kY, *]<;>(try omega)))
 by_cases k2:k=2
 ·subst k2
  go_wp2_with fail;all_goals (refine mn (by (simp[results,results172,go_sem];exact⟨rfl,rfl,rfl,rfl,rfl⟩)) rfl iR ?_;simp[fA,fO,fT,fN,fW,mG,uT,lu,kY, *]<;>(try omega))
 by_cases k3:k=3
 ·subst k3
  go_wp2_with fail;all_goals first
   |(refine mn (by (simp[results,results172,go_sem];exact⟨rfl,rfl,rfl,rfl,rfl⟩)) rfl iR ?_;simp[fA,fO,fT,fN,fW,mG,uT,lu,kY, *]<;>(try omega))
   |(refine (ES _ _).mono ?_
     rintro e w' ⟨rfl,rfl⟩;go_wp2_with fail;all_goals (refine mn (by (simp[results,results172,go_sem];exact⟨rfl,rfl,rfl,rfl,rfl⟩)) rfl iR ?_;simp[fA,fO,fT,fN,fW,mG,uT,lu,kY, *]<;>(try omega)))
 by_cases k4:k=4
 ·subst k4
  go_wp2_with fail;all_goals (refine mn (by (simp[results,results172,go_sem];exact⟨rfl,rfl,rfl,rfl,rfl⟩)) rfl iR ?_;simp[fA,fO,fT,fN,fW,mG,uT,lu,kY, *]<;>(try omega))
 by_cases k5:k=5
 ·subst k5
  go_wp2_with fail;all_goals (refine mn (by (simp[results,results172,go_sem];exact⟨rfl,rfl,rfl,rfl,rfl⟩)) rfl iR ?_;simp[fA,fO,fT,fN,fW,mG,uT,lu,kY, *]<;>(try omega))
 by_cases k6:k=6
 ·subst k6
  go_wp2_with fail;all_goals (refine mn (by (simp[results,results172,go_sem];exact⟨rfl,rfl,rfl,rfl,rfl⟩)) rfl iR ?_;simp[fA,fO,fT,fN,fW,mG,uT,lu,kY, *]<;>(try omega))
 by_cases k7:k=7
 ·subst k7
  go_wp2_with fail;all_goals (refine mn (by (simp[results,results172,go_sem];exact⟨rfl,rfl,rfl,rfl,rfl⟩)) rfl iR ?_;simp[fA,fO,fT,fN,fW,mG,uT,lu,kY, *]<;>(try omega))
 by_cases U:k=8
 ·subst U
  go_wp2_with fail;all_goals first
   |(refine mn (by (simp[results,results172,go_sem];exact⟨rfl,rfl,rfl,rfl,rfl⟩)) rfl iR ?_;simp[fA,fO,fT,fN,fW,mG,uT,lu,kY, *]<;>(try omega))
   |(refine (Gm _ _ _).mono ?_
     rintro e w' ⟨rfl,rfl⟩;go_wp2_with fail;all_goals (refine mn (by (simp[results,results172,go_sem];exact⟨rfl,rfl,rfl,rfl,rfl⟩)) rfl iR ?_;simp[fA,fO,fT,fN,fW,mG,uT,lu,kY, *]<;>(try omega)))
 by_cases R:k=9
 ·subst R
  rcases Decidable.em (t=2) with J | J
  ·subst J
   go_wp2_with fail;all_goals
    (refine wp_region_still_tail 13 kp kp ?_;simp only[sD,rP,uB,sS];change wpStill _ _ (World.drew _) _ _ _;repeat still_step)
    refine wpStill_nil ?_;change wpList _ _ _ _ _ (World.drew _);go_wp2_with fail;all_goals (refine mn (by (simp[results,results172,go_sem];exact⟨rfl,rfl,rfl,rfl,rfl⟩)) rfl iR ?_;simp[fA,fO,fT,fN,fW,mG,uT,lu,kY, *]<;>(try omega))
  go_wp2_with fail;all_goals
   (refine wp_region_still_tail 13 kp kp ?_;simp only[sD,rP,uB,sS];change wpStill _ _ (World.drew _) _ _ _;repeat still_step)
   still_call ((Fc _ _ _).mono fun _ _ h=>⟨h.1,h.2.symm⟩)
   repeat still_step
   refine wpStill_nil ?_;change wpList _ _ _ _ _ (World.drew _);go_wp2_with fail;all_goals (refine mn (by (simp[results,results172,go_sem];exact⟨rfl,rfl,rfl,rfl,rfl⟩)) rfl iR ?_;simp[fA,fO,fT,fN,fW,mG,uT,lu,kY, *]<;>(try omega))
 by_cases I:k=10
 ·subst I
  go_wp2_with fail;all_goals (refine mn (by (simp[results,results172,go_sem];exact⟨rfl,rfl,rfl,rfl,rfl⟩)) rfl iR ?_;simp[fA,fO,fT,fN,fW,mG,uT,lu,kY, *]<;>(try omega))
 by_cases j:k=11
 ·subst j
  go_wp2_with fail;all_goals (refine mn (by (simp[results,results172,go_sem];exact⟨rfl,rfl,rfl,rfl,rfl⟩)) rfl iR ?_;simp[fA,fO,fT,fN,fW,mG,uT,lu,kY, *]<;>(try omega))
 go_wp2_with fail;all_goals (refine mn (by (simp[results,results172,go_sem];exact⟨rfl,rfl,rfl,rfl,rfl⟩)) rfl iR ?_;simp[fA,fO,fT,fN,fW,mG,uT,lu,kY, *]<;>(try omega))
end
section
theorem vH (l:List Bool):∀c∈n_ l,xd c=true:=by
 intro c j;obtain⟨b,_,rfl⟩:=yQ.1 j;cases b<;>rfl
theorem xV (l:List Bool):rB (n_ l)=true:=by unfold rB;rw[Bk];exact vH l
theorem qQ (l:List Bool):pY (n_ l)=l:=by
 unfold pY n_;rw[xZ];conv=>rhs;rw[<- List.map_id l]
 apply IL;intro b _;cases b<;>rfl
theorem AZ {l:List UInt8} (h:rB l=true):n_ (pY l)=l:=by
 unfold pY n_;rw[xZ];conv=>rhs;rw[<- List.map_id l]
 apply IL;intro c j;have:=(Bk.1 h) c j;simp only[xd,uG,beq_iff_eq]at this;rcases this with rfl | rfl<;>rfl
theorem Cp {p:UInt8->Bool} {a b:List UInt8} {c:UInt8} (ha:∀x∈a,p x=true) (hc:p c=false):(a++c::b).takeWhile p=a:=by
 induction a with
 |nil=>simp[CZ,hc]
 |cons x a ih=>
 rw[lP,CZ,iG (ha x (by simp)),ih fun y j=>ha y (by simp[j])]
theorem C5 (h:List Bool) (c:UInt8) (t:List UInt8) (hc:xd c=false):ph (n_ h++c::t)=n_ h:=Cp (vH h) hc
def Ag (s:List UInt8) (h l:List Bool):Prop:=s=GD h l/\DS h l
theorem wO (h l:List Bool):GD h l=n_ h++40::(n_ l++[41]):=by simp[GD]
theorem LN {h l h' l':List Bool} (e:GD h l=GD h' l'):h=h'/\l=l':=by
 rw[wO,wO]at e;have o:=nQ ph e;rw[C5 _ _ _ rfl,C5 _ _ _ rfl]at o;have I:h=h':=by rw[<- qQ h,o,qQ]
 subst I;have j:=(List.append_cancel_left e);simp only[List.cons.injEq,true_and]at j;have J:=List.append_cancel_right j;exact⟨rfl,by rw[<- qQ l,J,qQ]⟩
open Classical in
noncomputable def pb (s:List UInt8):(List Bool×List Bool)×Int:=
 if 66<s.length then (([],[]),3) else if h:∃p:List Bool×List Bool,Ag s p.1 p.2 then (Classical.choose h,0) else (([],[]),5)
theorem wU {s:List UInt8} (h:66<s.length):pb s=(([],[]),3):=by unfold pb;rw[iG h]
theorem G5 {s:List UInt8} (hn:¬66<s.length) {h l:List Bool} (t:Ag s h l):pb s=((h,l),0):=by
 unfold pb;rw[iV hn];have j:∃p:List Bool×List Bool,Ag s p.1 p.2:=⟨(h,l),t⟩;rw[dif_pos j];have k:=Classical.choose_spec j;have:=LN (k.1.symm.trans t.1);rw[show Classical.choose j=(h,l) from Prod.ext this.1 this.2]
theorem Bg {s:List UInt8} (hn:¬66<s.length) (t:∀h l,¬Ag s h l):pb s=(([],[]),5):=by
 unfold pb;rw[iV hn,dif_neg];rintro⟨p,hp⟩;exact t _ _ hp
def KZ (l f r:List UInt8) (b:Bool):Prop:=(b=true->l=f++40::r/\40∉f)/\(b=false->40∉l)
theorem MH {l:List UInt8} {i:Nat} (h1:l[i]?=some 40) (h2:∀j,j<i->l[j]?≠some 40):KZ l (l.take i) (l.drop (i+1)) true:=by
 refine⟨fun _=>⟨?_,fun o=>?_⟩,fun e=>by cases e⟩
 ·obtain⟨J,e⟩:=rq.1 h1
  rw[<- e,<- MG J,Gv]
 obtain⟨j,I,e⟩:=List.getElem_of_mem o;rw[Fi]at I;refine h2 j iu ?_;rw[List.getElem_take]at e;rw[qn iu,e]
theorem BG (l:List UInt8) (c:UInt8):(Lib.indexByte l c=-1/\c∉l)\/∃i:Nat,Lib.indexByte l c=(i:Nat)/\i<l/\l[i]?=some c/\∀j,j<i->l[j]?≠some c:=by
 induction l with
 |nil=>exact .inl ⟨rfl,by simp⟩
 |cons b l ih=>
 unfold Lib.indexByte;by_cases o:b=c
 ·subst o
  exact .inr ⟨0,by simp,by simp,by simp,fun j I=>by omega⟩
 rw[iV (by simpa using o)];rcases ih with⟨h1,h2⟩ | ⟨i,h1,h2,h3,h4⟩
 ·rw[h1];exact .inl ⟨rfl,by simp[h2];exact fun e=>o e.symm⟩
 rw[h1];refine .inr ⟨i+1,?_,by simpa using h2,by simpa using h3,fun j I=>?_⟩
 ·rw[iV (by simp)];omega
 cases j with
 |zero=>simpa using o
 |succ j=>simpa using h4 j iu
theorem Jm {f r f' r':List UInt8} (h:40∉f) (h':40∉f') (e:f++40::r=f'++40::r'):f=f'/\r=r':=by
 induction f generalizing f' with
 |nil=>
  cases f' with
  |nil=>simp at e;exact⟨rfl,e⟩
  |cons a f'=>simp at e;exact absurd (by rw[<- e.1];simp) h'
 |cons a f ih=>
 cases f' with
 |nil=>simp at e;exact absurd (by rw[e.1];simp) h
 |cons b f'=>
 simp at e;obtain⟨rfl,e⟩:=e;obtain⟨rfl,rfl⟩:=ih (by simp at h;exact h.2) (by simp at h';exact h'.2) e;exact⟨rfl,rfl⟩
theorem Fo (h:List Bool):(40:UInt8)∉n_ h:=fun hm=>by have:=vH h _ hm;simp[xd]at this
def NR (r back:List UInt8) (b:Bool):Prop:=(b=true->r=back++[41])/\(b=false->∀x,r≠x++[41])
theorem Rm (r:List UInt8):NR r (Lib.trimSuffix r [41]) (Lib.hasSuffix r [41]):=by
 refine⟨fun h=>?_,fun h x e=>?_⟩
 ·unfold Lib.trimSuffix
  rw[iG h];unfold Lib.hasSuffix at h;rw[List.isSuffixOf_iff_suffix]at h;obtain⟨t,rfl⟩:=h;simp
 unfold Lib.hasSuffix at h;rw[<- Bool.not_eq_true,List.isSuffixOf_iff_suffix]at h;exact h ⟨x,e.symm⟩
theorem parts {l f r back:List UInt8} {b1 b2:Bool} {h k:List Bool} (hc:KZ l f r b1) (hs:NR r back b2) (t:Ag l h k):b1=true/\b2=true/\f=n_ h/\back=n_ k:=by
 obtain⟨e,I⟩:=t;rw[wO]at e;cases b1 with
 |false=>exact absurd (by rw[e];simp) (hc.2 rfl)
 |true=>
 obtain⟨o,j⟩:=hc.1 rfl;obtain⟨rfl,rfl⟩:=Jm j (Fo h) (o.symm.trans e);cases b2 with
 |false=>exact absurd rfl (hs.2 rfl _)
 |true=>exact⟨rfl,rfl,rfl,(List.append_cancel_right (hs.1 rfl)).symm⟩
theorem LR {l f r back:List UInt8} (hc:KZ l f r true) (hs:NR r back true) (h1:rB f=true) (h2:rB back=true) (hv:DS (pY f) (pY back)) (hn:¬66<l.length):pb l=((pY f,pY back),0):=by
 refine G5 hn ⟨?_,hv⟩;rw[wO,AZ h1,AZ h2,(hc.1 rfl).1,hs.1 rfl]
theorem wE {l f r back:List UInt8} {b1 b2:Bool} (hc:KZ l f r b1) (hs:NR r back b2) (hn:¬66<l.length) (h:b1=true->b2=true->rB f=true->rB back=true->¬DS (pY f) (pY back)):pb l=(([],[]),5):=by
 refine Bg hn fun a b t=>?_
 obtain⟨o,j,rfl,rfl⟩:=parts hc hs t;have:=h o j (xV _) (xV _);rw[qQ,qQ]at this;exact this t.2
end
section
open Go.Proofs.Tryz
theorem zB (s:yB) (a b:Nat):(s.extract a b).data.toList=(s.data.toList.drop a).take (b-a):=by
 obtain⟨⟨l⟩⟩:=s;rw[ByteArray.extract_mk];first | done | simp
theorem RI (s:yB) (w:yM) (hs:s.size<=2000000) :
  Calls prog 189 #[s,.string ⟨#[40]⟩] w fun e w'=>∃(f r:yB) (b:Bool),e=.returned (.tuple #[f,r,b])/\KZ s.data.toList f.data.toList r.data.toList b/\f.size<=s.size/\r.size<=s.size/\ik w w':=by
 have hl:s.data.toList=s.size:=(ow rfl).symm;rcases BG s.data.toList 40 with⟨h1,j⟩ | ⟨i,h1,j,h3,h4⟩
 ·replace j:=iB j
  go_in;go_wp2_with fail;refine (stringslite_Index_one s 40 _).mono ?_;rintro e w' ⟨rfl,rfl⟩;rw[h1];go_wp2_with fail;go_ret3;exact⟨_,_,_,rfl,⟨fun e=>(by cases e),fun _=>j⟩,js _,wB _,zc⟩
 have HC:=iB (MH h3 h4);have hi:i<s.size:=by omega
 have U:(i:Int)+1<=(s.size:Int):=by omega
 go_in;go_wp2_with fail;refine (stringslite_Index_one s 40 _).mono ?_;rintro e w' ⟨rfl,rfl⟩;rw[h1];have R:IntKind.i64.wrap ((i:Int)+1)=(i:Int)+1:=IntWalk.i64_in _ (by omega);have J:((i:Int)+1).toNat=i+1:=iu;go_wp2_with fail;go_quiet (fail);go_wp2_with fail;go_ret3;have I:(s.extract 0 i).data.toList=s.data.toList.take i:=by rw[zB];simp
 have o:(s.extract (i+1) s.size).data.toList=s.data.toList.drop (i+1):=by rw[zB,Dn (by rw[nY];omega)]
 refine⟨_,_,_,rfl,?_,?_,?_,zc⟩
 ·rw[I,o]
  exact HC
 ·rw[ow I,Fi];omega
 rw[ow o,nY];omega
theorem Tn (s:yB) (w:yM) (hs:s.size<=2000000) :
  Calls prog 183 #[s,.string ⟨#[40]⟩] w fun e w'=>∃(f r:yB) (b:Bool),e=.returned (.tuple #[f,r,b])/\KZ s.data.toList f.data.toList r.data.toList b/\f.size<=s.size/\r.size<=s.size/\ik w w':=by
 go_in;go_wp2_with fail;refine (RI s _ hs).mono ?_;rintro e w' ⟨f,r,b,rfl,j,I,o,J⟩;replace j:=iy j;go_wp2_with fail;go_ret3;exact⟨f,r,b,rfl,j,I,o,J⟩
theorem Ta (s:yB) (w:yM) (hs:s.size<=2000000) :
  Calls prog 184 #[s,.string ⟨#[41]⟩] w fun e w'=>∃(r:yB) (b:Bool),e=.returned (.tuple #[r,b])/\NR s.data.toList r.data.toList b/\r.size<=s.size/\ik w w':=by
 refine (strings_CutSuffix s ⟨#[41]⟩ w (by omega)).mono ?_;rintro e w' ⟨rfl,rfl⟩;refine⟨_,_,rfl,Rm _,?_,zc⟩;have j:(⟨(Lib.trimSuffix s.data.toList [41]).toArray⟩:yB).size=(Lib.trimSuffix s.data.toList [41]).length:=rfl;have o:s.data.toList=s.size:=(ow rfl).symm;show (⟨(Lib.trimSuffix s.data.toList [41]).toArray⟩:yB).size<=s.size
 rw[j];unfold Lib.trimSuffix;split
 ·rw[Fi];omega
 omega
theorem R' (s:yB) (w:yM) (hs:s.size<=2000000) :
  Calls prog 185 #[s] w fun e w'=>∃(A:zA) (c:Nat) (l:List Bool) (b:Bool),e=.returned (.tuple #[(A,l,c),b])/\RB w' A c l/\BM w A/\Hid (b=rB s.data.toList)/\Hid (b=true->l=pY s.data.toList)/\ik w w':=by
 refine (It s w hs).mono ?_;rintro e w' (⟨h,A,c,rfl,x,n,y,rfl⟩ | ⟨h,rfl,y,rfl⟩)
 ·have j:s.size=(pY s.data.toList).length:=by rw[zM];exact ow rfl
  exact⟨A,c,_,true,by rw[j],x,n,h.symm,fun _=>rfl,iR⟩
 exact⟨none,0,[],false,rfl,uK _,(fun o e=>by cases e),h.symm,(fun e=>by cases e),iR⟩
theorem DC (s:yB) (w:yM) (hs:s.size<=140737488355328) :
  Calls prog 173 #[s] w fun e w'=>∃A c B d,e=.returned (.tuple #[.agg #[.slice A (pb s.data.toList).1.1.length c,.slice B (pb s.data.toList).1.2.length d],.int .i64 (pb s.data.toList).2])/\RW w' A c B d (pb s.data.toList).1.1 (pb s.data.toList).1.2/\∃y,w'=w.more y:=by
 have hl:s.data.toList=s.size:=(ow rfl).symm;by_cases ag:66<s.size
 ·have an:uD w w:=zc
  have I:=iB (wU (s:=s.data.toList) (by omega));have j:=iB (jC w 259 #[(),()]);have ah:(66:Int)<(s.size:Int):=by omega
  clear hl;go_in;go_wp2_with fail;have o:=(j.jx 0 (.slice none 0 0)).jx 1 (.slice none 0 0);have R:(((w.alloc (.cells #[(),()] 259)).setCell w (.slice none 0 0)).setCell (w,1) (.slice none 0 0)).cell? w=():=by rw[o.cell];rfl
  have J:(((w.alloc (.cells #[(),()] 259)).setCell w (.slice none 0 0)).setCell (w,1) (.slice none 0 0)).cell? (w,1)=():=by rw[o.cell];rfl
  refine jR (v:=.tuple #[.agg #[(),()],.int .i64 3]) (by simp[results,results173,go_sem,R,J]) rfl ⟨none,0,none,0,by rw[I.out];rfl,by rw[I.out];exact⟨uK _,uK _⟩,jP _ _⟩
 replace hs:s.size<=2000000:=by omega
 have hn:¬66<s.data.toList.length:=by omega
 have HN:=iB hn;have ah:(s.size:Int)<=66:=by omega
 obtain⟨g0,a8⟩:=jt w.heap.size;obtain⟨U,af,z,a1,aa⟩:∃U,(w.alloc (.cells #[(),()] 259))=U/\Hid (iP U g0 259 #[(),()])/\ik w U/\g0<U.heap.size:=⟨_,rfl,by rw[<- a8];exact jC _ _ _,zc,by rw[<- a8];simp⟩;have ak:uD w g0:=⟨by omega⟩;clear hl hn;go_in;go_wp2_with fail;try rw[af]
 try rw[a8]
 clear af a8;refine (Tn s _ hs).mono ?_;rintro e w1 ⟨f,r,b1,rfl,hc,zf,zr,J⟩;have HC:=iB hc;clear hc;go_wp2_with fail;refine (Ta r _ (by omega)).mono ?_;rintro e w2 ⟨bk,b2,rfl,ae,zb,k2⟩;have HS:=iB ae;clear ae;go_wp2_with fail;refine (R' f _ (by omega)).mono ?_;rintro e w3 ⟨A5,c5,H5,b3,rfl,x5,n5,D5,E5,k3⟩;have X5:=iB x5;clear x5;go_wp2_with fail;refine (R' bk _ (by omega)).mono ?_;rintro e w4 ⟨A6,c6,H6,b4,rfl,x6,n6,D6,E6,k4⟩;have X6:=iB (RW.mk (X5.below k4.below) x6);clear x6;have q1:ik U w1:=J;have q2:ik U w2:=ij q1 k2;have q3:ik U w3:=ij q2 k3;have q4:ik U w4:=ij q3 k4;have m5:BM (g0+1) A5:=n5.mono (jW aa q2.below.size);have m6:BM (g0+1) A6:=n6.mono (jW aa q3.below.size);obtain⟨g5,ai⟩:=jt w4.heap.size;obtain⟨W5,ao,b5,a5,r5⟩:∃W5,w4.alloc (.cells #[(A5,H5,c5),(A6,H6,c6)] 259)=W5/\Hid (iP W5 g5 259 #[(A5,H5,c5),(A6,H6,c6)])/\ik U W5/\Hid (RW W5 A5 c5 A6 c6 H5 H6):=⟨_,rfl,by rw[<- ai];exact jC _ _ _,ij q4 zc,X6.here _⟩;have au:ik w W5:=ij a1 a5;have e0:W5.cell? g5=(A5,H5,c5):=by rw[b5.out.cell];rfl
 have e1:W5.cell? (g5,1)=(A6,H6,c6):=by rw[b5.out.cell];rfl
 have l5:=b5.is_le;cases b1
 ·have I:=iB (wE HC HS HN (fun e=>by cases e))
  have j:=iB (z.after (w':=W5));have d0:W5.cell? g0=():=by rw[j.out.cell];rfl
  have d1:W5.cell? (g0,1)=():=by rw[j.out.cell];rfl
  have f0:=j.frozen 0;have f1:=j.frozen 1;have l6:=j.is_le;go_wp2_with fail;have o:=(j.jx 0 (.slice none 0 0)).jx 1 (.slice none 0 0);have R:((W5.setCell g0 (.slice none 0 0)).setCell (g0,1) (.slice none 0 0)).cell? g0=():=by rw[o.cell];rfl
  have J:((W5.setCell g0 (.slice none 0 0)).setCell (g0,1) (.slice none 0 0)).cell? (g0,1)=():=by rw[o.cell];rfl
  refine jR (v:=.tuple #[.agg #[(),()],.int .i64 5]) (by simp[results,results173,go_sem,R,J]) rfl ⟨none,0,none,0,by rw[I.out];rfl,by rw[I.out];exact⟨uK _,uK _⟩,jP _ _⟩
 cases b2
 ·have I:=iB (wE HC HS HN (fun _ e=>by cases e))
  have j:=iB (z.after (w':=W5));have d0:W5.cell? g0=():=by rw[j.out.cell];rfl
  have d1:W5.cell? (g0,1)=():=by rw[j.out.cell];rfl
  have f0:=j.frozen 0;have f1:=j.frozen 1;have l6:=j.is_le;go_wp2_with fail;have o:=(j.jx 0 (.slice none 0 0)).jx 1 (.slice none 0 0);have R:((W5.setCell g0 (.slice none 0 0)).setCell (g0,1) (.slice none 0 0)).cell? g0=():=by rw[o.cell];rfl
  have J:((W5.setCell g0 (.slice none 0 0)).setCell (g0,1) (.slice none 0 0)).cell? (g0,1)=():=by rw[o.cell];rfl
  refine jR (v:=.tuple #[.agg #[(),()],.int .i64 5]) (by simp[results,results173,go_sem,R,J]) rfl ⟨none,0,none,0,by rw[I.out];rfl,by rw[I.out];exact⟨uK _,uK _⟩,jP _ _⟩
 cases b3
 ·have I:=iB (wE HC HS HN (fun _ _ e=>by rw[<- D5.out]at e;cases e))
  have j:=iB (z.after (w':=W5));have d0:W5.cell? g0=():=by rw[j.out.cell];rfl
  have d1:W5.cell? (g0,1)=():=by rw[j.out.cell];rfl
  have f0:=j.frozen 0;have f1:=j.frozen 1;have l6:=j.is_le;go_wp2_with fail;have o:=(j.jx 0 (.slice none 0 0)).jx 1 (.slice none 0 0);have R:((W5.setCell g0 (.slice none 0 0)).setCell (g0,1) (.slice none 0 0)).cell? g0=():=by rw[o.cell];rfl
  have J:((W5.setCell g0 (.slice none 0 0)).setCell (g0,1) (.slice none 0 0)).cell? (g0,1)=():=by rw[o.cell];rfl
  refine jR (v:=.tuple #[.agg #[(),()],.int .i64 5]) (by simp[results,results173,go_sem,R,J]) rfl ⟨none,0,none,0,by rw[I.out];rfl,by rw[I.out];exact⟨uK _,uK _⟩,jP _ _⟩
 cases b4
 ·have I:=iB (wE HC HS HN (fun _ _ _ e=>by rw[<- D6.out]at e;cases e))
  have j:=iB (z.after (w':=W5));have d0:W5.cell? g0=():=by rw[j.out.cell];rfl
  have d1:W5.cell? (g0,1)=():=by rw[j.out.cell];rfl
  have f0:=j.frozen 0;have f1:=j.frozen 1;have l6:=j.is_le;go_wp2_with fail;have o:=(j.jx 0 (.slice none 0 0)).jx 1 (.slice none 0 0);have R:((W5.setCell g0 (.slice none 0 0)).setCell (g0,1) (.slice none 0 0)).cell? g0=():=by rw[o.cell];rfl
  have J:((W5.setCell g0 (.slice none 0 0)).setCell (g0,1) (.slice none 0 0)).cell? (g0,1)=():=by rw[o.cell];rfl
  refine jR (v:=.tuple #[.agg #[(),()],.int .i64 5]) (by simp[results,results173,go_sem,R,J]) rfl ⟨none,0,none,0,by rw[I.out];rfl,by rw[I.out];exact⟨uK _,uK _⟩,jP _ _⟩
 have a':=E5 rfl;have a_:=E6 rfl;rcases GR H5 H6 with hv | ⟨hv,h5⟩
 ·have I:Hid (pb s.data.toList=((H5,H6),0)):=by subst a';subst a_;exact LR HC HS D5.symm D6.symm hv HN
  have ab:=iB (Hl hv);clear a' a_ hv;go_wp2_with fail;refine (Dz r5.out _ ab.out).mono ?_;rintro e w6 ⟨rfl,y6,a7⟩;have a6:ik W5 w6:=by rw[a7];infer_instance
  have ad:ik U w6:=ij a5 a6;have aj:ik w w6:=ij a1 ad;clear a7;have b6:=iB (b5.after (w':=w6));have ar:w6.cell? g5=(A5,H5,c5):=by rw[b6.out.cell];rfl
  have aq:w6.cell? (g5,1)=(A6,H6,c6):=by rw[b6.out.cell];rfl
  have al:=b6.is_le;have j:=iB (z.after (w':=w6));have d0:w6.cell? g0=():=by rw[j.out.cell];rfl
  have d1:w6.cell? (g0,1)=():=by rw[j.out.cell];rfl
  have f0:=j.frozen 0;have f1:=j.frozen 1;have l6:=j.is_le;go_wp2_with fail;have o:=(j.jx 0 (.slice A5 H5 c5)).jx 1 (.slice A6 H6 c6);have R:((w6.setCell g0 (.slice A5 H5 c5)).setCell (g0,1) (.slice A6 H6 c6)).cell? g0=(A5,H5,c5):=by rw[o.cell];rfl
  have J:((w6.setCell g0 (.slice A5 H5 c5)).setCell (g0,1) (.slice A6 H6 c6)).cell? (g0,1)=(A6,H6,c6):=by rw[o.cell];rfl
  refine jR (v:=.tuple #[.agg #[(A5,H5,c5),(A6,H6,c6)],JX]) (by simp[results,results173,go_sem,R,J]) rfl ⟨A5,c5,A6,c6,by rw[I.out],by rw[I.out];exact⟨((r5.head.here w6).jx m5 (by omega) 0 _).jx m5 (by omega) 1 _,((r5.loop.here w6).jx m6 (by omega) 0 _).jx m6 (by omega) 1 _⟩,jP _ _⟩
 have I:Hid (pb s.data.toList=(([],[]),5)):=by subst a';subst a_;exact wE HC HS HN fun _ _ _ _=>hv
 clear a' a_;rcases h5 with h5 | h5
 all_goals
  have ab:=iB h5;clear h5;go_wp2_with fail;refine (Dz r5.out _ ab.out).mono ?_;rintro e w6 ⟨rfl,y6,a7⟩;have a6:ik W5 w6:=by rw[a7];infer_instance
  have ad:ik U w6:=ij a5 a6;have aj:=ij a1 ad;clear a7;have j:=iB (z.after (w':=w6));have d0:w6.cell? g0=():=by rw[j.out.cell];rfl
  have d1:w6.cell? (g0,1)=():=by rw[j.out.cell];rfl
  have f0:=j.frozen 0;have f1:=j.frozen 1;have l6:=j.is_le;go_wp2_with fail;have o:=(j.jx 0 (.slice none 0 0)).jx 1 (.slice none 0 0);have R:((w6.setCell g0 (.slice none 0 0)).setCell (g0,1) (.slice none 0 0)).cell? g0=():=by rw[o.cell];rfl
  have J:((w6.setCell g0 (.slice none 0 0)).setCell (g0,1) (.slice none 0 0)).cell? (g0,1)=():=by rw[o.cell];rfl
  refine jR (v:=.tuple #[.agg #[(),()],.int .i64 5]) (by simp[results,results173,go_sem,R,J]) rfl ⟨none,0,none,0,by rw[I.out];rfl,by rw[I.out];exact⟨uK _,uK _⟩,jP _ _⟩
noncomputable def xJ (a b c d e:Bool) (o:Int) (s:yB):Int:=
 if a=false\/c=false\/b=!(decide (o≠0))\/b=true/\(o<1\/16<o) then 5
 else if d=true then (if kT s=true then 0 else 6)
 else if e=true then (if (pb s.data.toList).2=0 then 0 else 5)
 else if s.toList.isEmpty=true then 0 else 5
noncomputable def Ay (k o t v:Int) (s:yB) (n:Nat):Int:=
 if 64<n then 3 else xJ (fA k o t v n) (fO k) (fT k t v) (fN k) (fW k) o s
theorem PJ {k o t v:Int} {s:yB} {A:zA} {n c:Nat} (hn:n<=140737488355328) (hs:s.size<=140737488355328) (w:yM) :
  Calls prog 160 #[.agg #[k,o,t,v,s,(A,n,c)]] w fun e w'=>e=.returned (.int .i64 (Ay k o t v s n))/\ik w w':=by
 have I:Hid (∀w,Calls prog 172 #[.agg #[k,o,t,v,s,(A,n,c)]] w fun e w'=>e=.returned (.agg #[(fA k o t v n),(fO k),(fT k t v),(fN k),(fW k)])/\ik w w'):=iy fun w=>Q1 hn w
 unfold Ay;generalize fA k o t v n=a at I⊢;generalize fO k=b at I⊢;generalize fT k t v=c' at I⊢;generalize fN k=d at I⊢;generalize fW k=e' at I⊢;go_in;by_cases j:64<n
 ·have R:(64:Int)<n:=iu
  go_wp2;go_ret;exact⟨by simp[j],iR⟩
 have R:¬(64:Int)<n:=iu;go_wp2_with fail;refine (I _).mono ?_;rintro _ w1 ⟨rfl,J⟩;obtain⟨y,rfl⟩:=@jP _ _ J;cases a
 ·go_wp2_with fail
  all_goals
   go_ret;exact⟨by simp[j,xJ],iR⟩
 cases c'
 ·go_wp2_with fail
  all_goals
   go_ret;exact⟨by simp[j,xJ],iR⟩
 by_cases h0:o=0
 ·subst h0
  cases b
  ·go_wp2_with fail
   all_goals first
    |(go_ret;exact⟨by simp_all [xJ],iR⟩)
    |(refine (Ap _ iu _).mono ?_
      rintro _ w2 ⟨rfl,J⟩;obtain⟨U,rfl⟩:=@jP _ _ J;go_wp2_with fail;all_goals
       go_ret;exact⟨by simp_all [xJ],iR⟩)
    |(refine (DC _ _ hs).mono ?_
      rintro _ w2 ⟨A2,c2,B2,d2,rfl,a1,U,rfl⟩;go_wp2_with fail;all_goals
       go_ret;exact⟨by simp_all [xJ],iR⟩)
  go_wp2_with fail;all_goals
   go_ret;exact⟨by simp[j,xJ],iR⟩
 cases b
 ·go_wp2_with fail
  all_goals
   go_ret;exact⟨by simp[j,xJ,h0],iR⟩
 by_cases h1:o<1\/16<o
 ·go_wp2_with fail
  all_goals
   go_ret;exact⟨by simp[j,xJ,h0,h1],iR⟩
 have h2:¬o<1:=iu;have h3:¬16<o:=iu;go_wp2_with fail;all_goals first
  |(go_ret;exact⟨by simp_all [xJ],iR⟩)
  |(refine (Ap _ iu _).mono ?_
    rintro _ w2 ⟨rfl,J⟩;obtain⟨U,rfl⟩:=@jP _ _ J;go_wp2_with fail;all_goals
     go_ret;exact⟨by simp_all [xJ],iR⟩)
  |(refine (DC _ _ hs).mono ?_
    rintro _ w2 ⟨A2,c2,B2,d2,rfl,a1,U,rfl⟩;go_wp2_with fail;all_goals
     go_ret;exact⟨by simp_all [xJ],iR⟩)
end
theorem JQ (k o t z:Int) (s:yB) (A:zA) (c:Nat) (xs:List Tx):(Tx.mk k o t z s A c xs).val=.agg #[k,o,t,z,s,(A,xs,c)]:=rfl
theorem txs (k o t z:Int) (s:yB) (A:zA) (c:Nat) (xs:List Tx):(Tx.mk k o t z s A c xs).kind=k/\(Tx.mk k o t z s A c xs).op=o/\(Tx.mk k o t z s A c xs).ty=t/\(Tx.mk k o t z s A c xs).va=z/\(Tx.mk k o t z s A c xs).name=s/\(Tx.mk k o t z s A c xs).ad=A/\(Tx.mk k o t z s A c xs).args=xs/\(Tx.mk k o t z s A c xs).cap=c:=⟨rfl,rfl,rfl,rfl,rfl,rfl,rfl,rfl⟩
section
open Go.Proofs.Tryz
open Go.RowKit Go.Shelf
attribute [local go_sem] Oper.semAt_some
class TP (P:yM->Tx->Prop):Prop where
 r:∀{w e},P w e->RX w e
 a:∀{w e},P w e->∀x∈e.args,P w x
instance:TP RX:=⟨id,fun h=>h.all⟩
abbrev HP (P:yM->Tx->Prop) (w0:yM):Type:={ x:Tx // P w0 x }
abbrev H9 (w0:yM):Type:=HP RX w0
structure ti (n₀ B:Nat) (W W':yM):Prop where
 below:Below n₀ W W'
 keep:∀(k:Nat) (ob:Obj),B<=k->W.heap[k]?=some ob->ob.isCells=true->W'.heap[k]?=some ob
theorem ti.refl (n₀ B:Nat) (W:yM):ti n₀ B W W:=⟨Below.refl _ _,fun _ _ _ h _=>h⟩
theorem ti.trans {n₀ B:Nat} {a b c:yM} (h:ti n₀ B a b) (k:ti n₀ B b c):ti n₀ B a c:=⟨h.below.trans k.below,fun i ob hi ho hc=>k.keep i ob hi (h.keep i ob hi ho hc) hc⟩
theorem ti.PY {n₀ B:Nat} {w:yM} (hn:n₀<=w) (W:yM) (l:Nat) (ob ob':Obj) (hl:w<=l) (h:W.heap[l]?=some ob) (h1:ob.isCells=false) (h2:ob.isWalk=false):ti n₀ B W (W.putObj l ob'):=by
 refine⟨belowK_b hn W l ob ob' hl h h1 h2,fun k o R j J=>?_⟩;have I:k≠l:=fun e=>by subst e;rw[h]at j;cases j;rw[h1]at J;cases J
 exact ((grownBy_putObj' W l ob').block k (Array.getElem?_eq_some_iff.1 j).1 (fun e=>I (by cases e;rfl))).trans j
theorem ti.after {n₀ B:Nat} {W W':yM} (hn:n₀<=W) (k:ik W W'):ti n₀ B W W':=
 ⟨k.below.mono hn,fun i ob hi ho hc=>(k.below.block i (Array.getElem?_eq_some_iff.1 ho).1).trans ho⟩
theorem ti.set {n₀ B b:Nat} {W:yM} (h1:n₀<=b) (h2:b<B) (i:Nat) (v:Value):ti n₀ B W (W.setCell (b,i) v):=
 ⟨(Below.refl _ _).setCell (p:=(b,i)) h1 v,fun k ob hk ho hc=>(Below.heap_setCell W ⟨b,i,none⟩ v k (fun e=>by simp at e;omega)).trans ho⟩
theorem ti.blk {n₀ B:Nat} {W W':yM} (h:ti n₀ B W W') {g:Nat} {t:TypeId} {cs:Array Value} (hg:B<=g) (b:iP W g t cs):iP W' g t cs:=h.keep g _ hg b rfl
theorem ti.aft {B:Nat} {w0 W W':yM} (h:ti w0 B W W') (a:ik w0 W):ik w0 W':=⟨a.below.trans h.below⟩
theorem AI {F:Fence} (hd:F.depth=none) {m:Nat} (m':Nat) {P:Program} {l:Nat} {args:Array Value} {W:yM} {R:Ending->yM->Prop} (h:YieldAt F m P l args W R):YieldAt F m' P l args W R:=by
 obtain⟨fn,o,j,I,U,J⟩:=h;exact⟨fn,o,j,I,U,J.1,fun c cs _=>J.2 c cs (fun d h=>by rw[hd]at h;cases h)⟩
def EachPostP {P:yM->Tx->Prop} {w0:yM} (B:Nat) (J Jx:List (HP P w0)->yM->Prop) (Jp:List PanicEntry->yM->Prop) (ph:List (HP P w0)) (l:List Tx) (W:yM) (e:Ending) (W':yM):Prop:=
 (e=.returned (.bool true)/\(∃ys:List (HP P w0),ys.map (·.1)=l/\J (ph++ys) W')/\ti w0 B W W')\/(e=.returned (.bool false)/\∃q:List (HP P w0),q.map (·.1) <+: l/\Jx (ph++q) W')\/∃ch,e=.panicked ch/\Jp ch W'
theorem eachP_in {P:yM->Tx->Prop} [TP P] (F:Fence) (hd:F.depth=none) (hf:F.fn 162) (hro:F.round=none) (l B N Bj:Nat) (w0:yM) (J Jx:List (HP P w0)->yM->Prop) (Jp:List PanicEntry->yM->Prop) (hJ:AbidesFrom Bj J)
  (hY:∀m ph (x:HP P w0) W,J ph W->ph<N->YieldAt F m prog l #[x.1.val] W fun e W'=>
   (e=.returned (.bool true)/\J (ph++[x]) W'/\ti w0 B W W')\/(e=.returned (.bool false)/\Jx (ph++[x]) W')\/∃ch,e=.panicked ch/\Jp ch W') (M:Nat) :
  ∀(k o t v:Int) (s:yB) (A:zA) (c:Nat) (xs:List Tx),(Tx.mk k o t v s A c xs).size<=M->P w0 (.mk k o t v s A c xs)->∀(n:Nat) (ph:List (HP P w0)) (W:yM),ik w0 W->B<=W->J ph W->ph.length+(Tx.mk k o t v s A c xs).size<=N ->
   CallsIn F n prog 162 #[.agg #[k,o,t,v,s,(A,xs,c)],.func (.yield l) #[] #[]] W (EachPostP B J Jx Jp ph (Tx.mk k o t v s A c xs).list W):=by
 induction M with
 |zero=>
  intro k o t v s A c xs hs;simp[Tx.size]at hs
 |succ M ih=>
 intro k o t v s A c xs hs x n ph W aft hB h0 hN;rw[Tx.size]at hs hN;rw[Tx.list];have hbd:=(TP.r (P:=P) x).bounds;simp only[Tx.args,Tx.cap,Tx.name]at hbd;obtain⟨hb1_,hb2_,hb3_,hb4_⟩:=hbd;have hdd:∀i:Nat,(F.depth.isSome=true->1<=i):=fun i h=>by rw[hd]at h;cases h
 have hal:∀(q:List (HP P w0)) (U:yM) (ob:Obj),J q U->J q (U.alloc ob):=fun q U ob h=>hJ q U _ none h (World.grownBy_alloc U ob none) (fun r e=>by cases e)
 obtain⟨g,hg⟩:=jt W.heap.size;obtain⟨W1,hW1,b1,k1,j1⟩:∃W1,W.alloc (.cells #[k,o,t,v,s,(A,xs,c)] 73)=W1/\iP W1 g 73 #[k,o,t,v,s,(A,xs,c)]/\ik W W1/\J ph W1:=⟨_,rfl,by rw[<- hg];exact iP.new _ _ _,zc,hal _ _ _ h0⟩;have a1:ik w0 W1:=ij aft k1;obtain⟨fn,tmps,assign,body,hy,hR⟩:=hY (n-1) ph ⟨_,x⟩ W1 j1 iu;simp only[Tx.val,Tx.kind,Tx.op,Tx.ty,Tx.va,Tx.name,Tx.ad,Tx.args,Tx.cap]at hy;have hBg:B<=g:=iu
 have c0:W1.cell? g=k:=by rw[b1.cell];rfl
 have c1:W1.cell? (g,1)=o:=by rw[b1.cell];rfl
 have c2:W1.cell? (g,2)=t:=by rw[b1.cell];rfl
 have c3:W1.cell? (g,3)=v:=by rw[b1.cell];rfl
 have c4:W1.cell? (g,4)=s:=by rw[b1.cell];rfl
 have c5:W1.cell? (g,5)=(A,xs,c):=by rw[b1.cell];rfl
 have l1:=b1.is_le;have K1:ti w0 B W W1:=ti.after aft.below.size k1;replace b1:=iB b1;replace hal:=iB hal;replace ih:=iB ih;replace x:=iB x;replace K1:=iB K1;replace hY:=iB hY;refine callsIn_of_wp func162 rfl hf ?_ hro;simp only[ntmps162,List.size_toArray,List.length_cons,List.length_nil,Nat.reduceAdd,Nat.reduceSub,Array.replicate_succ,Array.replicate_zero,List.push_toArray,List.append_toArray,List.nil_append,List.cons_append]
 gi_wp2
 refine hR.mono ?_;rintro e W2 (⟨rfl,j2,k2⟩ | ⟨rfl,jx2⟩ | ⟨ch,rfl,jp2⟩)
 ·replace K1:=iB (K1.out.trans k2)
  have a2:ik w0 W2:=k2.aft a1;replace b1:=iB (k2.blk hBg b1.out);have d5:W2.cell? (g,5)=(A,xs,c):=by rw[b1.out.cell];rfl
  have l2:=b1.out.is_le;have hB2:B<=W2:=jW hBg (Nat.le_of_lt b1.out.lt);clear hR hy c0 c1 c2 c3 c4 c5 l1 k2 k1 hW1
  gi_wp2
  gi_loopw [14] (fun i wr=>∃(j:Nat) (ys:List (HP P w0)),j<=xs.length/\i=.int .i64 (j:Nat)/\Hid (ys.map (·.1)=Tx.mk k o t v s A c xs::Tx.lists (xs.take j))/\Hid (J (ph++ys) wr)/\Hid (ti w0 B W wr)/\Hid (iP wr g 73 #[k,o,t,v,s,(A,xs,c)])) (fun i _=>xs.length-(intOf i).toNat)
  ·exact⟨0,[⟨_,x.out⟩],by omega,rfl,by show _=_;simp[Tx.lists],j2,K1,b1⟩
  case round=>
  clear b1 K1 j2 a2 d5 l2 hB2;obtain⟨j,ys,hj,rfl,HM,HJ,K1,b1⟩:=hrel;have a2:ik w0 wr:=K1.out.aft aft;have d5:wr.cell? (g,5)=(A,xs,c):=by rw[b1.out.cell];rfl
  have l2:=b1.out.is_le;have hBr:B<=wr:=jW hBg (Nat.le_of_lt b1.out.lt);by_cases hlt:j<xs
  ·have hltI:(j:Int)<(xs:Int):=iu
   obtain⟨b,p,k1,o1,t1,v1,s1,A1,c1,xs1,rfl,hb1,HX1,HR1,e0,e1,e2,e3,e4,e5⟩:=((TP.r (P:=P) x.out).here wr).part (i:=j) hlt;have hR0:P w0 (.mk k1 o1 t1 v1 s1 A1 c1 xs1):=TP.a (P:=P) x.out _ (List.mem_of_getElem? HX1.out);have hst:=Tx.sizes_take HX1.out;have hme:=Tx.sizes_mem HX1.out;have htl:=Tx.sizes_take_le xs (j+1);have hyl:ys=Tx.sizes (xs.take j)+1:=by have:=congrArg List.length HM.out;rw[List.length_map,List.length_cons,Tx.lists_length]at this;exact this
   have HLT:=iB (Tx.lists_take HX1.out);have HSZ:Hid ((ph++ys).length+(Tx.mk k1 o1 t1 v1 s1 A1 c1 xs1).size<=N):=by show _<=_;rw[List.length_append];omega
   have HS1:Hid ((Tx.mk k1 o1 t1 v1 s1 A1 c1 xs1).size<=M):=by show _<=_;omega
   clear hst hme htl hyl;obtain⟨g2,hg2⟩:=jt wr.heap.size;obtain⟨W3,hW3,b3,k3,j3⟩:∃W3,wr.alloc (.cells #[k1,o1,t1,v1,s1,(A1,xs1,c1)] 73)=W3/\Hid (iP W3 g2 73 #[k1,o1,t1,v1,s1,(A1,xs1,c1)])/\ik wr W3/\Hid (J (ph++ys) W3):=⟨_,rfl,by rw[<- hg2];exact iP.new _ _ _,zc,hal.out _ _ _ HJ.out⟩;have a3:ik w0 W3:=ij a2 k3;have hB3:B<=W3:=jW hBr k3.below.size;have f0:W3.cell? g2=k1:=by rw[b3.out.cell];rfl
   have f1:W3.cell? (g2,1)=o1:=by rw[b3.out.cell];rfl
   have f2:W3.cell? (g2,2)=t1:=by rw[b3.out.cell];rfl
   have f3:W3.cell? (g2,3)=v1:=by rw[b3.out.cell];rfl
   have f4:W3.cell? (g2,4)=s1:=by rw[b3.out.cell];rfl
   have f5:W3.cell? (g2,5)=(A1,xs1,c1):=by rw[b3.out.cell];rfl
   have l3:=b3.out.is_le;have HC:=iB (ih.out k1 o1 t1 v1 s1 A1 c1 xs1 HS1.out hR0 (n-1) (ph++ys) W3 a3 hB3 j3.out HSZ.out);have K3:=iB (K1.out.trans (ti.after a2.below.size k3));have b13:=iB (b1.out.after (w':=W3))
   gi_wp2_with fail
   refine HC.out.mono ?_;clear HC ih;rintro e W4 (⟨rfl,⟨ys2,hy2,j4⟩,k4⟩ | ⟨rfl,q,hq,jx4⟩ | ⟨ch,rfl,jp4⟩)
   ·have HM2:Hid ((ys++ys2).map (·.1)=Tx.mk k o t v s (some (b,p)) c xs::Tx.lists (xs.take (j+1))):=by show _=_;rw[List.map_append,HM.out,hy2,HLT.out,List.cons_append]
    have HJ2:Hid (J (ph++(ys++ys2)) W4):=by rw[<- List.append_assoc];exact j4
    have K4:=iB (K3.out.trans k4);have b14:=iB (k4.blk hBg b13.out);clear hy2 j4 k4
    gi_wp2
    go_roundw
    case rel=>exact⟨j+1,ys++ys2,by omega,by go_num,HM2,HJ2,K4,b14⟩
    case measure=>simp[intOf];omega
   ·have HP:Hid ((ys++q).map (·.1) <+: Tx.mk k o t v s (some (b,p)) c xs::Tx.lists xs):=by
     have h2:=Tx.lists_append (xs.take (j+1)) (xs.drop (j+1));rw[List.take_append_drop,HLT.out]at h2;show _ <+: _
     rw[List.map_append,HM.out,h2,List.cons_append,List.append_assoc];exact List.cons_prefix_cons.2 ⟨rfl,(List.prefix_append_right_inj _).2 (hq.trans (List.prefix_append _ _))⟩
    have HJ2:Hid (Jx (ph++(ys++q)) W4):=by rw[<- List.append_assoc];exact jx4
    clear hq jx4
    gi_wp2
    go_ret;exact .inr (.inl ⟨rfl,ys++q,HP.out,HJ2.out⟩)
   gi_wp2
   exact⟨rfl,.inr (.inr ⟨ch,rfl,jp4⟩)⟩
  obtain rfl:j=xs:=iu
  gi_wp2
  go_ret;exact .inl ⟨rfl,⟨ys,by have:=HM.out;rwa [List.take_length]at this,HJ.out⟩,K1.out⟩
 ·gi_wp2
  go_ret;exact .inr (.inl ⟨rfl,[⟨_,x.out⟩],by simp,jx2⟩)
 gi_wp2
 exact⟨rfl,.inr (.inr ⟨ch,rfl,jp2⟩)⟩
theorem each1P_in {P:yM->Tx->Prop} [TP P] (F:Fence) (hd:F.depth=none) (n:Nat) (hc:F.fn 161) (hf:F.fn 162) (hro:F.round=none) (l g B Bj:Nat) (w0:yM) (J Jx:List (HP P w0)->yM->Prop) (Jp:List PanicEntry->yM->Prop) (hJ:AbidesFrom Bj J)
  (k o t v:Int) (s:yB) (A:zA) (c:Nat) (xs:List Tx) (x:P w0 (.mk k o t v s A c xs))
  (hY:∀ph (x:HP P w0) W,J ph W->ph.length<(Tx.mk k o t v s A c xs).size->YieldAt F (n-1) prog l #[x.1.val] W fun e W'=>
   (e=.returned (.bool true)/\J (ph++[x]) W'/\ti w0 B W W')\/(e=.returned (.bool false)/\Jx (ph++[x]) W')\/∃ch,e=.panicked ch/\Jp ch W')
  (W:yM) (aft:ik w0 W) (hB:B<=W) (hg:iP W g 73 #[k,o,t,v,s,(A,xs,c)]) (h0:J [] W) :
  CallsIn F n prog 161 #[.func (.yield l) #[] #[],.pointer (some g)] W fun e W'=>((∃v,e=.returned v) /\
   ((∃ys:List (HP P w0),ys.map (·.1)=(Tx.mk k o t v s A c xs).list/\J ys W')\/(∃ph:List (HP P w0),ph.map (·.1) <+: (Tx.mk k o t v s A c xs).list/\Jx ph W')))\/∃ch,e=.panicked ch/\Jp ch W':=by
 have hdd:∀i:Nat,(F.depth.isSome=true->1<=i):=fun i h=>by rw[hd]at h;cases h
 have HC:=iB (eachP_in F hd hf hro l B (Tx.mk k o t v s A c xs).size Bj w0 J Jx Jp hJ (fun m ph x W hj hl=>AI hd m (hY ph x W hj hl)) _ k o t v s A c xs (js _) x (n-1) [] W aft hB h0 (by simp));have c0:W.cell? g=k:=by rw[hg.cell];rfl
 have c1:W.cell? (g,1)=o:=by rw[hg.cell];rfl
 have c2:W.cell? (g,2)=t:=by rw[hg.cell];rfl
 have c3:W.cell? (g,3)=v:=by rw[hg.cell];rfl
 have c4:W.cell? (g,4)=s:=by rw[hg.cell];rfl
 have c5:W.cell? (g,5)=(A,xs,c):=by rw[hg.cell];rfl
 have hl:=hg.is_le;replace hY:=iB hY;replace hg:=iB hg;refine callsIn_of_wp func161 rfl hc ?_ hro;simp only[ntmps161,List.size_toArray,List.length_cons,List.length_nil,Nat.reduceAdd,Nat.reduceSub,Array.replicate_succ,Array.replicate_zero,List.push_toArray,List.append_toArray,List.nil_append,List.cons_append]
 gi_wp2_with fail
 refine HC.out.mono ?_;clear HC;rintro e W4 (⟨rfl,⟨ys2,hy2,j4⟩,k4⟩ | ⟨rfl,q,hq,jx4⟩ | ⟨ch,rfl,jp4⟩)
 ·have H1:=iB hy2
  have H2:=iB j4;clear hy2 j4 k4
  gi_wp2
  go_end0;exact .inl ⟨⟨_,rfl⟩,.inl ⟨ys2,H1.out,H2.out⟩⟩
 ·have H1:=iB hq
  have H2:=iB jx4;clear hq jx4
  gi_wp2
  go_end0;exact .inl ⟨⟨_,rfl⟩,.inr ⟨q,H1.out,H2.out⟩⟩
 gi_wp2
 exact⟨rfl,.inr ⟨ch,rfl,jp4⟩⟩
theorem NW {P:yM->Tx->Prop} [TP P] (F:Fence) (hd:F.depth=none) (n:Nat) (hc:F.fn 161) (hf:F.fn 162) (hro:F.round=none) (l g B Bj:Nat) (w0:yM) (J Jx:List (HP P w0)->yM->Prop) (hJ:AbidesFrom Bj J)
  (k o t v:Int) (s:yB) (A:zA) (c:Nat) (xs:List Tx) (x:P w0 (.mk k o t v s A c xs))
  (hY:∀ph (x:HP P w0) W,J ph W->ph.length<(Tx.mk k o t v s A c xs).size->YieldAt F (n-1) prog l #[x.1.val] W fun e W'=>
   (e=.returned (.bool true)/\J (ph++[x]) W'/\ti w0 B W W')\/(e=.returned (.bool false)/\Jx (ph++[x]) W'))
  (W:yM) (aft:ik w0 W) (hB:B<=W) (hg:iP W g 73 #[k,o,t,v,s,(A,xs,c)]) (h0:J [] W) :
  CallsIn F n prog 161 #[.func (.yield l) #[] #[],.pointer (some g)] W fun e W'=>(∃v,e=.returned v) /\
   ((∃ys:List (HP P w0),ys.map (·.1)=(Tx.mk k o t v s A c xs).list/\J ys W')\/(∃ph:List (HP P w0),ph.map (·.1) <+: (Tx.mk k o t v s A c xs).list/\Jx ph W')):=
 (each1P_in F hd n hc hf hro l g B Bj w0 J Jx (fun _ _=>False) hJ k o t v s A c xs x (fun ph y W h1 h2=>by
  obtain⟨f,a,b,c,d,e⟩:=hY ph y W h1 h2;exact⟨f,a,b,c,d,e.mono fun _ _ h=>h.elim .inl fun h=>.inr (.inl h)⟩) W aft hB hg h0).mono fun _ _ h=>h.elim id fun ⟨_,_,h⟩=>h.elim
theorem yT (F:Fence) (n:Nat) (ha:F.fn 124) (hro:F.round=none) (k o t v:Int) (s:yB) (A:zA) (c:Nat) (xs:List Tx) (w:yM) :
  CallsIn F n prog 124 #[.agg #[k,o,t,v,s,(A,xs,c)]] w fun e w'=>e=.returned (.func (.func 161) #[] #[.pointer w])/\w'=w.alloc (.cells #[k,o,t,v,s,(A,xs,c)] 73):=by
 refine callsIn_of_wp func124 rfl ha ?_ hro;simp only[ntmps124,Fu,py,wJ,Nat.reduceAdd,Nat.reduceSub,Fw,EO,EY,FK,sb,lP]
 gi_wp2
 go_ret;exact⟨rfl,rfl⟩
theorem yz {P:yM->Tx->Prop} [TP P] (F:Fence) (hd:F.depth=none) (n:Nat) (hc:F.fn 161) (hf:F.fn 162) (hro:F.round=none) (g B:Nat) (w0:yM) (k o t v:Int) (s:yB) (A:zA) (c:Nat) (xs:List Tx) (x:P w0 (.mk k o t v s A c xs)) (w:yM)
  (aft:ik w0 w) (hB:B<=w) (hg:iP w g 73 #[k,o,t,v,s,(A,xs,c)]) :
  SeqStopsK F n prog 161 #[.pointer (some g)] (fun x:HP P w0=>#[x.1.val]) (ti w0 B) (fun ys=>ys.map (·.1)=(Tx.mk k o t v s A c xs).list) (fun ph=>ph.map (·.1) <+: (Tx.mk k o t v s A c xs).list) (Tx.mk k o t v s A c xs).size w:=fun l J Jx W hW hJ _ hY h0=>
 NW F hd n hc hf hro l g B _ w0 J Jx hJ k o t v s A c xs x hY W (ij aft ⟨hW⟩) (jW hB hW.size) ((hW.block g hg.lt).trans hg) h0
theorem PV (F:Fence) (hd:F.depth=none) (n:Nat) (h1:F.fn 158) (ha:F.fn 124) (hc:F.fn 161) (hf:F.fn 162) (hro:F.round=none) (hn:3<=n)
  {k o t v:Int} {s:yB} {A:zA} {c:Nat} {xs:List Tx} {w0:yM} (hs:(Tx.mk k o t v s A c xs).size<=2000000) (x:RX w0 (.mk k o t v s A c xs)) (w:yM) (aft:ik w0 w) :
  CallsIn F n prog 158 #[.agg #[k,o,t,v,s,.slice A xs.length c]] w fun e w'=>e=.returned (.int .i64 ((Tx.mk k o t v s A c xs).size:Nat))/\ik w w':=by
 have a7:1<=n:=by omega
 have ab:∀i:Nat,(F.depth.isSome=true->1<=i):=fun i h=>by rw[hd]at h;cases h
 refine callsIn_of_wp_marks func158 rfl h1 ?_ hro;simp only[ntmps158,Fu,py,wJ,Nat.reduceAdd,Nat.reduceSub,Fw,EO,EY,FK,sb,lP]
 gi_wp2_with fail
 refine (yT F (n-1) ha hro k o t v s A c xs _).mono ?_;rintro e w' ⟨rfl,rfl⟩
 gi_wp2_with fail
 obtain⟨N,R⟩:=jt ((Tx.mk k o t v s A c xs).size);obtain⟨U,hU,ad,bU,bE,kU⟩:∃U,(((w.alloc (.cells #[k,o,t,v,s,.slice A xs.length c] 73)).alloc (.cells #[.int .i64 0] 3)).alloc (.cells #[k,o,t,v,s,.slice A xs.length c] 73))=U/\U.heap.size=w.heap.size+3/\iP U (w.heap.size+1) 3 #[.int .i64 0]/\iP U (w.heap.size+2) 73 #[k,o,t,v,s,.slice A xs.length c]/\ik w U:=by
  refine⟨_,rfl,by simp,(H_ w _ _ _).alloc _,?_,zc⟩;have:=H_ (w.alloc (.cells #[k,o,t,v,s,.slice A xs.length c] 73)) (.cells #[.int .i64 0] 3) 73 #[k,o,t,v,s,.slice A xs.length c];rw[iH]at this;exact this
 have I:=yz F hd (n-1) hc hf hro (w.heap.size+2) (w.heap.size+2) w0 k o t v s A c xs x U (ij aft kU) (by omega) bE;have a_:=aft.below.size;rw[R]at I hs;rw[hU];refine wpIn_rangeFunc_ownF hro a7 (gf:=161) (lb:=#[.pointer (some ⟨w.heap.size+2,0,none⟩)]) rfl hc (enters_of func161 (by kernel_rfl) rfl) I ti.trans (ti.PY (by omega)) (Below.refl _ _) (fun _=>rfl)
  (fun j W=>iP W (w.heap.size+1) 3 #[.int .i64 (j.length:Nat)]/\Below w.heap.size w W) (fun _ _ _=>False)
  (fun s A B a8 hs hg hr=>⟨hs.1.grown hg (fun e=>by have:=(hr _ e.symm).1;omega),hs.2.grown hg hs.2.size (fun k e=>by have:=(hr _ e).1;omega)⟩)
  (fun _ _ _ _ _ hs _ _=>hs) ⟨bU,kU.below⟩
  (fun x=>{ tmps:=#[.agg #[k,o,t,v,s,.slice A xs.length c],.pointer (some ⟨w.heap.size,0,none⟩),.int .i64 0,.pointer (some ⟨w.heap.size+1,0,none⟩),.agg #[k,o,t,v,s,.slice A xs.length c],.func (.func 161) #[] #[.pointer (some ⟨w.heap.size+2,0,none⟩)],x.1.val,undef,undef,undef],defers:=[] }) ?assign ?body ?done ?stop
 case assign=>
  intro l x W K hK
  gi_wp2
  exact hK
 case body=>
  rintro l j x W ⟨J,hB⟩ a';have aa:(j.length:Int)+1<=2000000:=by omega
  have c0:W.cell? ⟨w.heap.size+1,0,none⟩=some (.int .i64 (j.length:Nat)):=by rw[J.cell];rfl
  have f0:=J.frozen 0
  gi_wp2
  refine⟨KeepsOthers.setCell _ _ _,ti.set (by omega) (by omega) 0 _,?_,hB.setCell (p:=⟨w.heap.size+1,0,none⟩) (by show w.heap.size<=w.heap.size+1;omega) _⟩;have:=J.jx 0 (.int .i64 ((j.length:Int)+1));rw[mo];simpa using this
 case done=>
  rintro D ys W hD a1 ⟨J,hB⟩ hK;have a6:ys.length=N:=by have:=nQ List.length a1;rw[pE,Tx.list_length,R]at this;exact this
  rw[a6]at J;have c0:W.cell? ⟨w.heap.size+1,0,none⟩=some (.int .i64 (N:Nat)):=by rw[J.cell];rfl
  gi_wp2
  refine⟨by simp,.inl ⟨_,_,rfl,run_takeDeferred hK,?_⟩⟩;exact⟨_,results_tmp rfl _ _ _,rfl,⟨hB.trans (belowK_b (w:=w) (js _) W D _ _ (by omega) hK rfl rfl)⟩⟩
 case stop=>
 rintro D c j W _ _ h _;exact h.elim
theorem Ca {k o t v:Int} {s:yB} {A:zA} {c:Nat} {xs:List Tx} {w0:yM} (hs:(Tx.mk k o t v s A c xs).size<=2000000) (x:RX w0 (.mk k o t v s A c xs)) (w:yM) (aft:ik w0 w) :
  Calls prog 158 #[.agg #[k,o,t,v,s,(A,xs,c)]] w fun e w'=>e=.returned (.int .i64 ((Tx.mk k o t v s A c xs).size:Nat))/\ik w w':=
 (callsIn_wide (n:=3)).1 (PV _ rfl 3 trivial trivial trivial trivial rfl iI hs x w aft)
end
section
open Go.RowKit Go.Shelf
attribute [local go_sem] Oper.semAt_some
def E7 {w0:yM} (l:List (H9 w0)):List Tx:=l.map fun x=>x.1
theorem Ib {w0:yM} (l:List (H9 w0)) (e:Tx) (h:RX w0 e):E7 (l++[⟨e,h⟩])=E7 l++[e]:=by simp[E7]
def J_ (D:Nat) (mk:Value->Act) (x:Tx) (a':Act) (W:yM):Prop:=∃Bx,D<=Bx/\iP W Bx 73 x.cells/\a'=mk (.pointer (some Bx))
theorem At {D B:Nat} {mk:Value->Act} {x:Tx} {a':Act}:OwnFrom B (fun (_:Unit) W=>J_ D mk x a' W):=by
 rintro s A C I ⟨Bx,h1,j,h3⟩ R J;refine⟨Bx,h1,j.grown R (fun e=>?_),h3⟩;obtain⟨_,ob,o,U⟩:=J _ e.symm;unfold iP at j;rw[j]at o;cases o;cases U
end
section
open Go.Proofs.Tryz
open Go.RowKit Go.Shelf
attribute [local go_sem] Oper.semAt_some
def dk (q:Int):Bool:=q==5||q==6||q==7||q==10||q==11
def jL (l:List Tx):Bool:=l.all fun e=>!dk e.kind
theorem CO (l:List Tx) (e:Tx):jL (l++[e])=(jL l&&!dk e.kind):=by simp[jL,He]
theorem Dk {l m:List Tx} (h:l <+: m) (e:jL l=false):jL m=false:=by
 obtain⟨r,rfl⟩:=h;unfold jL at *
 rw[He,e];rfl
theorem Fp (F:Fence) (hd:F.depth=none) (n:Nat) (h1:F.fn 157) (ha:F.fn 124) (hc:F.fn 161) (hf:F.fn 162) (hro:F.round=none) (hn:3<=n)
  {k o t v:Int} {s:yB} {A:zA} {c:Nat} {xs:List Tx} {w0:yM} (x:RX w0 (.mk k o t v s A c xs)) (w:yM) (aft:ik w0 w) :
  CallsIn F n prog 157 #[.agg #[k,o,t,v,s,.slice A xs.length c]] w fun e w'=>e=.returned (.bool (jL (Tx.mk k o t v s A c xs).list))/\ik w w':=by
 have ab:1<=n:=iu;have ah:∀i:Nat,(F.depth.isSome=true->1<=i):=fun i h=>by rw[hd]at h;cases h
 refine callsIn_of_wp_marks func157 rfl h1 ?_ hro;simp only[ntmps157,Fu,py,wJ,Nat.reduceAdd,Nat.reduceSub,Fw,EO,EY,FK,sb,lP]
 gi_wp2_with fail
 refine (yT F (n-1) ha hro k o t v s A c xs _).mono ?_;rintro e w' ⟨rfl,rfl⟩
 gi_wp2_with fail
 obtain⟨U,hU,R,bU,bE,kU⟩:∃U,(((w.alloc (.cells #[k,o,t,v,s,.slice A xs.length c] 73)).alloc (.cells #[.bool false] 4)).alloc (.cells #[k,o,t,v,s,.slice A xs.length c] 73))=U/\U.heap.size=w.heap.size+3/\iP U (w.heap.size+1) 4 #[.bool false]/\iP U (w.heap.size+2) 73 #[k,o,t,v,s,.slice A xs.length c]/\ik w U:=by
  refine⟨_,rfl,by simp,(H_ w _ _ _).alloc _,?_,zc⟩;have:=H_ (w.alloc (.cells #[k,o,t,v,s,.slice A xs.length c] 73)) (.cells #[.bool false] 4) 73 #[k,o,t,v,s,.slice A xs.length c];rw[iH]at this;exact this
 have a7:=yz F hd (n-1) hc hf hro (w.heap.size+2) (w.heap.size+2) w0 k o t v s A c xs x U (ij aft kU) iu bE;have af:=aft.below.size;have aj:w.heap.size+3<=U.heap.size:=lI R.symm;have ai:U.heap.size<=w.heap.size+3:=lI R;rw[hU];clear hU R;refine wpIn_rangeFunc_ownH hro ab (gf:=161) (lb:=#[.pointer (some ⟨w.heap.size+2,0,none⟩)]) rfl hc (enters_of func161 (by kernel_rfl) rfl) a7 ti.trans (ti.PY (by omega)) (Below.refl _ _) (fun _=>rfl)
  (fun j W=>iP W (w.heap.size+1) 4 #[.bool false]/\Hid (jL (E7 j)=true)/\Below w.heap.size w W/\U.heap.size<=W.heap.size)
  (fun c j W=>c=.ret/\iP W (w.heap.size+1) 4 #[.bool false]/\Hid (jL (E7 j)=false)/\Below w.heap.size w W)
  (fun s A B a_ J hg hr=>⟨J.1.grown hg (fun e=>by have:=(hr _ e.symm).1;omega),J.2.1,J.2.2.1.grown hg J.2.2.1.size (fun k e=>by have:=(hr _ e).1;omega),jW J.2.2.2 hg.size⟩)
  (fun c s A B a_ J hg hr=>⟨J.1,J.2.1.grown hg (fun e=>by have:=(hr _ e.symm).1;omega),J.2.2.1,J.2.2.2.grown hg J.2.2.2.size (fun k e=>by have:=(hr _ e).1;omega)⟩) ⟨bU,rfl,kU.below,js _⟩
  (fun x a' W=>J_ U.heap.size (fun p=>{ tmps:=#[.agg #[k,o,t,v,s,.slice A xs.length c],.pointer (some ⟨w.heap.size,0,none⟩),.pointer (some ⟨w.heap.size+1,0,none⟩),p,.agg #[k,o,t,v,s,.slice A xs.length c],.func (.func 161) #[] #[.pointer (some ⟨w.heap.size+2,0,none⟩)],x.1.val,undef,undef,undef,undef,undef,undef,undef,undef],defers:=[] }) x.1 a' W)
  (fun x a'=>At) ?assign ?body ?done ?stop
 case assign=>
  rintro l j ⟨⟨k1,o1,t1,v1,s1,A1,c1,ae⟩,hx⟩ W K ⟨I,i2,i3,i4⟩ hK;simp only[Tx.val,txs]
  gi_wp2
  exact hK _ _ ((KeepsOthers.alloc _ _).from _) (ti.after (by omega) zc) ⟨I.alloc _,i2,i3.alloc i3.size _,by simp;omega⟩ ⟨W.heap.size,i4,jC _ _ _,rfl⟩
 case body=>
  rintro l j ⟨e,hx⟩ a' W hl _ ⟨I,i2,i3,i4⟩ ⟨Bx,ak,bX,rfl⟩ ag;have a6:Hid (jL (E7 (j++[⟨e,hx⟩]))=!dk e.kind):=by show _=_;rw[Ib,CO,i2.out,xI]
  have c0:W.cell? Bx=some (.int .i64 e.kind):=by rw[bX.cell];rfl
  have c2:W.cell? ⟨w.heap.size+1,0,none⟩=some (.bool false):=by rw[I.cell];rfl
  have f2:=I.frozen 0;have lX:=bX.is_le;have l2:=I.is_le;have HR:dk e.kind=true->∀a:Act,(ownPostG U.heap.size (ti w0.heap.size (w.heap.size+2)) (fun (j:List (H9 w0)) W=>iP W (w.heap.size+1) 4 #[.bool false]/\Hid (jL (E7 j)=true)/\Below w.heap.size w W/\U.heap.size<=W.heap.size)
    (fun c j W=>c=.ret/\iP W (w.heap.size+1) 4 #[.bool false]/\Hid (jL (E7 j)=false)/\Below w.heap.size w W) (j++[⟨e,hx⟩]) W .ret a (W.setCell ⟨w.heap.size+1,0,none⟩ (.bool false))):=fun hk a=>by
   refine⟨(KeepsOthers.setCell _ _ _).from _,rfl,I.jx 0 (.bool false),?_,i3.setCell (p:=⟨w.heap.size+1,0,none⟩) (by show w.heap.size<=w.heap.size+1;omega) _⟩;show _=_
   rw[a6.out,hk];rfl
  replace HR:=iB HR;generalize e.kind=q at c0 a6 HR;by_cases b5:q=5
  ·subst b5;gi_wp2;exact HR.out rfl _
  by_cases b6:q=6
  ·subst b6;gi_wp2;exact HR.out rfl _
  by_cases b7:q=7
  ·subst b7;gi_wp2;exact HR.out rfl _
  by_cases b8:q=10
  ·subst b8;gi_wp2;exact HR.out rfl _
  by_cases b9:q=11
  ·subst b9;gi_wp2;exact HR.out rfl _
  have t5:(q==5)=false:=by simpa using b5
  have t6:(q==6)=false:=by simpa using b6
  have t7:(q==7)=false:=by simpa using b7
  have t8:(q==10)=false:=by simpa using b8
  have t9:(q==11)=false:=by simpa using b9
  have HD:Hid (jL (E7 (j++[⟨e,hx⟩]))=true):=by show _=_;rw[a6.out];unfold dk;rw[t5,t6,t7,t8,t9];rfl
  gi_wp2
  exact⟨(KeepsOthers.refl _).from _,ti.refl _ _ _,I,HD,i3,i4⟩
 case done=>
  rintro D ys W hD aa ⟨I,i2,i3,i4⟩ hK;have HS:Hid (jL (Tx.mk k o t v s A c xs).list=true):=by have:=i2.out;rwa [show E7 ys=_ from aa]at this
  have c2:W.cell? ⟨w.heap.size+1,0,none⟩=some (.bool false):=by rw[I.cell];rfl
  have f2:=I.frozen 0;have l2:=I.is_le;have i5:=iB (I.jx 0 (.bool true));have a1:=(KeepsOthers.setCell W ⟨w.heap.size+1,0,none⟩ (.bool true)).same D _ hK rfl;have ck:((W.setCell ⟨w.heap.size+1,0,none⟩ (.bool true)).putObj D (.deferred none)).cell? ⟨w.heap.size+1,0,none⟩=some (.bool true):=cell_kept (by rw[i5.out.cell];rfl) (grownBy_putObj' _ D (.deferred none)) (fun r e=>by cases e;exact⟨_,a1,rfl⟩);have ad:=(i3.setCell (p:=⟨w.heap.size+1,0,none⟩) (by show w.heap.size<=w.heap.size+1;omega) (.bool true)).trans (belowK_b (w:=w) (js _) (W.setCell ⟨w.heap.size+1,0,none⟩ (.bool true)) D _ (.deferred none) (by omega) a1 rfl rfl)
  gi_wp2
  refine⟨by simp,.inl ⟨_,_,rfl,run_takeDeferred a1,?_⟩⟩;exact⟨.bool true,by simp[results,results157,go_sem,ck],by rw[HS.out],⟨ad⟩⟩
 case stop=>
 rintro D c j W hD a8 ⟨rfl,I,i2,i3⟩ hK;have HS:Hid (jL (Tx.mk k o t v s A c xs).list=false):=Dk (show E7 j <+: _ from a8) i2;have ck:(W.putObj D (.deferred none)).cell? ⟨w.heap.size+1,0,none⟩=some (.bool false):=cell_kept (by rw[I.cell];rfl) (grownBy_putObj' _ D (.deferred none)) (fun r e=>by cases e;exact⟨_,hK,rfl⟩)
 gi_wp2
 refine⟨by simp,.inl ⟨_,_,rfl,run_takeDeferred hK,?_⟩⟩;exact⟨.bool false,by simp[results,results157,go_sem,ck],by rw[HS.out],⟨i3.trans (belowK_b (w:=w) (js _) W D _ _ (by omega) hK rfl rfl)⟩⟩
theorem Dp {k o t v:Int} {s:yB} {A:zA} {c:Nat} {xs:List Tx} {w0:yM} (x:RX w0 (.mk k o t v s A c xs)) (w:yM) (aft:ik w0 w) :
  Calls prog 157 #[.agg #[k,o,t,v,s,(A,xs,c)]] w fun e w'=>e=.returned (.bool (jL (Tx.mk k o t v s A c xs).list))/\ik w w':=
 (callsIn_wide (n:=3)).1 (Fp _ rfl 3 trivial trivial trivial trivial rfl iI x w aft)
noncomputable def uo (e:Tx):Int:=Ay e.kind e.op e.ty e.va e.name e.args
noncomputable def kR:List Tx->Int
 |[]=>0
 |e::l=>if uo e=0 then kR l else uo e
theorem sw (l m:List Tx):kR (l++m)=if kR l=0 then kR m else kR l:=by
 induction l with
 |nil=>simp[kR]
 |cons a l ih=>
 rw[lP,kR,kR,ih];by_cases h:uo a=0
 ·rw[iG h,iG h]
 rw[iV h,iV h,iV h]
theorem GW (l:List Tx) (e:Tx):kR (l++[e])=if kR l=0 then uo e else kR l:=by
 rw[sw];have:kR [e]=uo e:=by simp only[kR];split<;>simp_all
 rw[this]
theorem Je {l m:List Tx} (h:l <+: m) (e:kR l≠0):kR m=kR l:=by
 obtain⟨r,rfl⟩:=h;rw[sw,iV e]
noncomputable def vj (e:Tx):Int:=if 400<e.size\/32<e.depth then 3 else kR e.list
theorem KeepsOthers.rJ {A B:yM} (h:ik A B):KeepsOthers A B:=
 ⟨h.below.size,fun i o hi _=>by
  have hlt:i<A:=by
   rcases qa i A with h | h
   ·exact h
   rw[FF h]at hi;cases hi
  rw[h.below.block i hlt];exact hi⟩
theorem M5 {k o t v:Int} {s:yB} {A:zA} {c:Nat} {xs:List Tx} {w0:yM} (h4:¬400<(Tx.mk k o t v s A c xs).size) (h3:¬32<(Tx.mk k o t v s A c xs).depth) (x:RX w0 (.mk k o t v s A c xs)) (w:yM) (aft:ik w0 w) :
  CallsIn Fence.wide 3 prog 123 #[.agg #[.int .i64 k,.int .i64 o,.int .i64 t,.int .i64 v,.string s,.slice A xs.length c]] w fun e w'=>e=.returned (.int .i64 (kR (Tx.mk k o t v s A c xs).list))/\ik w w':=by
 have HZ:Hid (∀U,ik w0 U->CallsIn Fence.wide 2 prog 158 #[.agg #[.int .i64 k,.int .i64 o,.int .i64 t,.int .i64 v,.string s,.slice A xs.length c]] U fun e w'=>e=.returned (.int .i64 ((Tx.mk k o t v s A c xs).size:Nat))/\ik U w'):=iB fun U hU=>callsIn_wide.2 (Ca (by omega) x U hU)
 have HD:Hid (∀U,ik w0 U->CallsIn Fence.wide 2 prog 159 #[.agg #[.int .i64 k,.int .i64 o,.int .i64 t,.int .i64 v,.string s,.slice A xs.length c]] U fun e w'=>e=.returned (.int .i64 ((Tx.mk k o t v s A c xs).depth:Nat))/\ik U w'):=iB fun U hU=>callsIn_wide.2 (Ep (by omega) x U hU)
 obtain⟨nz,af⟩:=jt ((Tx.mk k o t v s A c xs).size);obtain⟨nd,ag⟩:=jt ((Tx.mk k o t v s A c xs).depth);rw[af]at HZ h4;rw[ag]at HD h3;have ao:¬(400:Int)<(nz:Int):=by omega
 have aq:¬(32:Int)<(nd:Int):=by omega
 refine callsIn_of_wp_marks func123 rfl trivial ?_ rfl;simp only[ntmps123,Fu,py,wJ,Nat.reduceAdd,Nat.reduceSub,Fw,EO,EY,FK,sb,lP]
 gi_wp2_with fail
 refine⟨trivial,(HZ _ (by infer_instance)).mono ?_⟩;rintro _ w1 ⟨rfl,ha⟩;obtain⟨y1,rfl⟩:=@jP _ _ ha
 gi_wp2_with fail
 refine⟨trivial,(HD _ (by infer_instance)).mono ?_⟩;rintro _ w2 ⟨rfl,ha⟩;obtain⟨y2,rfl⟩:=@jP _ _ ha
 gi_wp2_with fail
 simp only[show decide ((400:Int)<(nz:Int))=false from decide_eq_false (by omega),show decide ((32:Int)<(nd:Int))=false from decide_eq_false (by omega),Bool.or_false];obtain⟨V,hV,bV,aV,sV⟩:∃V,(((w.alloc (.cells #[.int .i64 k,.int .i64 o,.int .i64 t,.int .i64 v,.string s,.slice A xs.length c] 73)).alloc (.cells #[.int .i64 0] 26)).more y1).more y2=V/\iP V (w.heap.size+1) 26 #[.int .i64 0]/\ik w V/\w.heap.size+2<=V.heap.size:=by
  refine⟨_,rfl,((H_ w _ _ _).more _).more _,zc,?_⟩;have h2:=ik.size ((w.alloc (.cells #[.int .i64 k,.int .i64 o,.int .i64 t,.int .i64 v,.string s,.slice A xs.length c] 73)).alloc (.cells #[.int .i64 0] 26)) ((((w.alloc (.cells #[.int .i64 k,.int .i64 o,.int .i64 t,.int .i64 v,.string s,.slice A xs.length c] 73)).alloc (.cells #[.int .i64 0] 26)).more y1).more y2);simpa using h2
 rw[hV];refine⟨trivial,(yT Fence.wide 2 trivial rfl k o t v s A c xs _).mono ?_⟩;rintro e w' ⟨rfl,rfl⟩
 gi_wp2_with fail
 obtain⟨g,R⟩:=jt V.heap.size;obtain⟨U,hU,ai,bU,bE,kU⟩:∃U,V.alloc (.cells #[.int .i64 k,.int .i64 o,.int .i64 t,.int .i64 v,.string s,.slice A xs.length c] 73)=U/\U.heap.size=g+1/\iP U (w.heap.size+1) 26 #[.int .i64 0]/\iP U g 73 #[.int .i64 k,.int .i64 o,.int .i64 t,.int .i64 v,.string s,.slice A xs.length c]/\ik w U:=
  ⟨_,rfl,by simp[R],bV.alloc _,by rw[<- R];exact jC V _ _,zc⟩
 have a8:=yz Fence.wide rfl 2 trivial trivial rfl g g w0 k o t v s A c xs x U (ij aft kU) (by omega) bE;have ak:=aft.below.size;rw[hU,R];rw[R]at sV;refine wpIn_rangeFunc_ownH rfl (by decide) (gf:=161) (lb:=#[.pointer (some ⟨g,0,none⟩)]) rfl trivial (enters_of func161 (by kernel_rfl) rfl) a8 ti.trans (ti.PY (by omega)) (Below.refl _ _) (fun _=>rfl)
  (fun j W=>iP W (w.heap.size+1) 26 #[.int .i64 0]/\Hid (kR (E7 j)=0)/\Below w.heap.size w W/\U.heap.size<=W.heap.size)
  (fun c j W=>c=.ret/\iP W (w.heap.size+1) 26 #[.int .i64 (kR (E7 j))]/\Hid (kR (E7 j)≠0)/\Below w.heap.size w W)
  (fun s A B aa J R hr=>⟨J.1.grown R (fun e=>by have:=(hr _ e.symm).1;omega),J.2.1,J.2.2.1.grown R J.2.2.1.size (fun k e=>by have:=(hr _ e).1;omega),jW J.2.2.2 R.size⟩)
  (fun c s A B aa J R hr=>⟨J.1,J.2.1.grown R (fun e=>by have:=(hr _ e.symm).1;omega),J.2.2.1,J.2.2.2.grown R J.2.2.2.size (fun k e=>by have:=(hr _ e).1;omega)⟩) ⟨bU,rfl,kU.below,js _⟩
  (fun x a' W=>J_ U.heap.size (fun p=>{ tmps:=#[.agg #[.int .i64 k,.int .i64 o,.int .i64 t,.int .i64 v,.string s,.slice A xs.length c],.pointer (some ⟨w.heap.size,0,none⟩),.pointer (some ⟨w.heap.size+1,0,none⟩),p,undef,.agg #[.int .i64 k,.int .i64 o,.int .i64 t,.int .i64 v,.string s,.slice A xs.length c],.int .i64 nz,.bool false,.bool false,.agg #[.int .i64 k,.int .i64 o,.int .i64 t,.int .i64 v,.string s,.slice A xs.length c],.int .i64 nd,.bool false,.bool false,.agg #[.int .i64 k,.int .i64 o,.int .i64 t,.int .i64 v,.string s,.slice A xs.length c],.func (.func 161) #[] #[.pointer (some ⟨g,0,none⟩)],x.1.val,undef,undef,undef,undef,undef],defers:=[] }) x.1 a' W)
  (fun x a'=>At) ?assign ?body ?done ?stop
 case assign=>
  rintro l j ⟨⟨k1,o1,t1,v1,s1,A1,c1,aj⟩,hx⟩ W K ⟨i1,i2,i3,i4⟩ hK;simp only[Tx.val,txs]
  gi_wp2
  exact hK _ _ ((KeepsOthers.alloc _ _).from _) (ti.after (by omega) zc) ⟨i1.alloc _,i2,i3.alloc i3.size _,by simp;omega⟩ ⟨W.heap.size,i4,jC _ _ _,rfl⟩
 case body=>
  rintro l j ⟨e,hx⟩ a' W hl _ ⟨i1,i2,i3,i4⟩ ⟨Bx,an,bX,rfl⟩ al;have c0:W.cell? ⟨Bx,0,none⟩=some (.int .i64 e.kind):=by rw[bX.cell];rfl
  have c1:W.cell? ⟨Bx,1,none⟩=some (.int .i64 e.op):=by rw[bX.cell];rfl
  have c2:W.cell? ⟨Bx,2,none⟩=some (.int .i64 e.ty):=by rw[bX.cell];rfl
  have c3:W.cell? ⟨Bx,3,none⟩=some (.int .i64 e.va):=by rw[bX.cell];rfl
  have c4:W.cell? ⟨Bx,4,none⟩=some (.string e.name):=by rw[bX.cell];rfl
  have c5:W.cell? ⟨Bx,5,none⟩=some (.slice e.ad e.args.length e.cap):=by rw[bX.cell];rfl
  have lX:=bX.is_le;obtain⟨r,hr⟩:=jt (uo e);have HC:Hid (∀m W',CallsIn (Fence.wide.inRound l) m prog 160 #[.agg #[.int .i64 e.kind,.int .i64 e.op,.int .i64 e.ty,.int .i64 e.va,.string e.name,.slice e.ad e.args.length e.cap]] W' fun en w'=>en=.returned (.int .i64 r)/\ik W' w'):=iB fun m W'=>by
   have hb:=hx.bounds;have:=PJ (k:=e.kind) (o:=e.op) (t:=e.ty) (v:=e.va) (s:=e.name) (A:=e.ad) (n:=e.args.length) (c:=e.cap) hb.2.2.2 hb.1 W';rw[show Ay e.kind e.op e.ty e.va e.name e.args.length=r from hr]at this;exact CallsIn.inRound l (callsIn_wide.2 this)
  have a6:Hid (kR (E7 (j++[⟨e,hx⟩]))=r):=by show _=_;rw[Ib,GW,iG i2.out,hr]
  gi_wp2_with fail
  refine⟨trivial,(HC _ _).mono ?_⟩;rintro _ w2 ⟨rfl,ha⟩;have I:iP w2 (w.heap.size+1) 26 #[.int .i64 0]:=i1.after (k:=ha);have a7:Below w.heap.size w w2:=i3.trans (ha.below.mono i3.size);have ab:U.heap.size<=w2.heap.size:=jW i4 ha.below.size;have cr:w2.cell? ⟨w.heap.size+1,0,none⟩=some (.int .i64 0):=by rw[I.cell];rfl
  have fr:=I.frozen 0;have lr:=I.is_le;by_cases h0:r=0
  ·subst h0
   gi_wp2
   exact⟨(KeepsOthers.rJ ha).from _,ti.after (by omega) ha,I,a6,a7,ab⟩
  have ar:(r != 0)=true:=by simpa using h0
  gi_wp2
  refine⟨((KeepsOthers.rJ ha).trans (KeepsOthers.setCell _ _ _)).from _,rfl,?_,?_,a7.setCell (p:=⟨w.heap.size+1,0,none⟩) (by show w.heap.size<=w.heap.size+1;omega) _⟩
  ·rw[a6.out];exact I.jx 0 (.int .i64 r)
  show _≠_;rw[a6.out];exact h0
 case done=>
  rintro D ys W hD ae ⟨i1,i2,i3,i4⟩ hK;have HS:Hid (kR (Tx.mk k o t v s A c xs).list=0):=by have:=i2.out;rwa [show E7 ys=_ from ae]at this
  have c2:W.cell? ⟨w.heap.size+1,0,none⟩=some (.int .i64 0):=by rw[i1.cell];rfl
  have f2:=i1.frozen 0;have l2:=i1.is_le;have i5:=iB (i1.jx 0 (.int .i64 0));have a1:=(KeepsOthers.setCell W ⟨w.heap.size+1,0,none⟩ (.int .i64 0)).same D _ hK rfl;have ck:((W.setCell ⟨w.heap.size+1,0,none⟩ (.int .i64 0)).putObj D (.deferred none)).cell? ⟨w.heap.size+1,0,none⟩=some (.int .i64 0):=cell_kept (by rw[i5.out.cell];rfl) (grownBy_putObj' _ D (.deferred none)) (fun r e=>by cases e;exact⟨_,a1,rfl⟩);have ah:=(i3.setCell (p:=⟨w.heap.size+1,0,none⟩) (by show w.heap.size<=w.heap.size+1;omega) (.int .i64 0)).trans (belowK_b (w:=w) (js _) (W.setCell ⟨w.heap.size+1,0,none⟩ (.int .i64 0)) D _ (.deferred none) (by omega) a1 rfl rfl)
  gi_wp2
  refine⟨by simp,.inl ⟨_,_,rfl,run_takeDeferred a1,?_⟩⟩;exact⟨.int .i64 0,by simp[results,results123,go_sem,ck],by rw[HS.out],⟨ah⟩⟩
 case stop=>
 rintro D c j W hD a_ ⟨rfl,i1,i2,i3⟩ hK;have HS:=iy (Je (show E7 j <+: _ from a_) i2);have ck:(W.putObj D (.deferred none)).cell? ⟨w.heap.size+1,0,none⟩=some (.int .i64 (kR (E7 j))):=cell_kept (by rw[i1.cell];rfl) (grownBy_putObj' _ D (.deferred none)) (fun r e=>by cases e;exact⟨_,hK,rfl⟩)
 gi_wp2
 refine⟨by simp,.inl ⟨_,_,rfl,run_takeDeferred hK,?_⟩⟩;exact⟨.int .i64 (kR (E7 j)),by simp[results,results123,go_sem,ck],by rw[HS.out],⟨i3.trans (belowK_b (w:=w) (js _) W D _ _ (by omega) hK rfl rfl)⟩⟩
theorem KS {k o t v:Int} {s:yB} {A:zA} {c:Nat} {xs:List Tx} {w0:yM} (hs:(Tx.mk k o t v s A c xs).size<=2000000) (x:RX w0 (.mk k o t v s A c xs)) (w:yM) (aft:ik w0 w) :
  Calls prog 123 #[.agg #[k,o,t,v,s,(A,xs,c)]] w fun e w'=>e=.returned (.int .i64 (vj (Tx.mk k o t v s A c xs)))/\ik w w':=by
 by_cases h4:400<(Tx.mk k o t v s A c xs).size
 ·have HV:Hid (vj (Tx.mk k o t v s A c xs)=3):=by show _=_;unfold vj;rw[iG (.inl h4)]
  have R:Hid (∀U,ik w0 U->Calls prog 158 #[.agg #[k,o,t,v,s,(A,xs,c)]] U fun e w'=>e=.returned (.int .i64 ((Tx.mk k o t v s A c xs).size:Nat))/\ik U w'):=iy fun U J=>Ca hs x U J
  obtain⟨nz,j⟩:=jt ((Tx.mk k o t v s A c xs).size);rw[j]at R h4;have a6:(400:Int)<(nz:Int):=iu;go_in;go_wp2_with fail;refine (R _ iR).mono ?_;rintro _ w1 ⟨rfl,I⟩;obtain⟨y1,rfl⟩:=@jP _ _ I;go_wp2_with fail;refine jR (v:=.int .i64 3) (by simp[results,results123,go_sem]) rfl ⟨by rw[HV.out],iR⟩
 by_cases h3:32<(Tx.mk k o t v s A c xs).depth
 ·have HV:Hid (vj (Tx.mk k o t v s A c xs)=3):=by show _=_;unfold vj;rw[iG (.inr h3)]
  have R:Hid (∀U,ik w0 U->Calls prog 158 #[.agg #[k,o,t,v,s,(A,xs,c)]] U fun e w'=>e=.returned (.int .i64 ((Tx.mk k o t v s A c xs).size:Nat))/\ik U w'):=iy fun U J=>Ca hs x U J
  have HD:Hid (∀U,ik w0 U->Calls prog 159 #[.agg #[k,o,t,v,s,(A,xs,c)]] U fun e w'=>e=.returned (.int .i64 ((Tx.mk k o t v s A c xs).depth:Nat))/\ik U w'):=iy fun U J=>Ep hs x U J
  obtain⟨nz,j⟩:=jt ((Tx.mk k o t v s A c xs).size);obtain⟨nd,a1⟩:=jt ((Tx.mk k o t v s A c xs).depth);rw[j]at R h4;rw[a1]at HD h3;have a6:¬(400:Int)<(nz:Int):=iu;have a7:(32:Int)<(nd:Int):=iu;go_in;go_wp2_with fail;refine (R _ iR).mono ?_;rintro _ w1 ⟨rfl,I⟩;obtain⟨y1,rfl⟩:=@jP _ _ I;go_wp2_with fail;refine (HD _ iR).mono ?_;rintro _ w1 ⟨rfl,I⟩;obtain⟨y2,rfl⟩:=@jP _ _ I;go_wp2_with fail;refine jR (v:=.int .i64 3) (by simp[results,results123,go_sem]) rfl ⟨by rw[HV.out],iR⟩
 have:=(callsIn_wide (n:=3)).1 (M5 h4 h3 x w aft);unfold vj;rw[iV iu];exact this
end
def Dl (l:List iW) (k t v:Int) (n:Nat):Int:=
 if k=1\/k=8 then (if jV l t=0 then 10 else if nq l t v then 0 else 14)
 else if k=9 then (if jV l t=0 then 10 else if n=jV l t then 0 else 9) else 0
def Bl (l:List iW) (e:Tx):Int:=Dl l e.kind e.ty e.va e.args
def lv (l:List iW):List Tx->Int
 |[]=>0
 |e::m=>if Bl l e=0 then lv l m else Bl l e
theorem sr (l:List iW) (a b:List Tx):lv l (a++b)=if lv l a=0 then lv l b else lv l a:=by
 induction a with
 |nil=>simp[lv]
 |cons x a ih=>
 rw[lP,lv,lv,ih];by_cases h:Bl l x=0
 ·rw[iG h,iG h]
 rw[iV h,iV h,iV h]
theorem IA (l:List iW) (a:List Tx) (e:Tx):lv l (a++[e])=if lv l a=0 then Bl l e else lv l a:=by
 rw[sr];have:lv l [e]=Bl l e:=by simp only[lv];split<;>simp_all
 rw[this]
theorem Ji (l:List iW) {a b:List Tx} (h:a <+: b) (e:lv l a≠0):lv l b=lv l a:=by
 obtain⟨r,rfl⟩:=h;rw[sr,iV e]
noncomputable def qk (l:List iW) (e:Tx):Int:=if vj e=0 then lv l e.list else vj e
theorem GM {w0:yM} {x:nB iW} (h:ir 2 sM w0 x) (w:yM) (hw:ik w0 w) (k o t v:Int) (s:yB) (A:zA) (n c:Nat) (ht:t<=9223372036854775807) (hn:n<=140737488355328) :
  Calls prog 125 #[(x.A,x.l,x.c),.agg #[k,o,t,v,s,(A,n,c)]] w fun e w'=>e=.returned (.int .i64 (Dl x.l k t v n))/\ik w w':=by
 have a8:=N1 h t;have HS:=iy (fun (U:yM) (hU:ik w0 U)=>uS h U hU t ht);have HH:=iy (fun (U:yM) (hU:ik w0 U)=>Ch h U hU t v ht);obtain⟨R,hR⟩:=jt (Dl x.l k t v n);have HR:=iy hR;rw[hR];obtain⟨m,hm⟩:=jt (jV x.l t);obtain⟨q,hq⟩:=jt (nq x.l t v);have HV:Hid (R=if k=1\/k=8 then (if m=0 then 10 else if q then 0 else 14) else if k=9 then (if m=0 then 10 else if n=m then 0 else 9) else 0):=by
  show _=_
  rw[<- HR.out];unfold Dl;rw[hm,hq]
 rw[hm]at HS a8;rw[hq]at HH;obtain⟨W1,ad,HK,a1⟩:∃W1,w.alloc (.cells #[k,o,t,v,s,(A,n,c)] 73)=W1/\Hid (∀U:yM,ik W1 U->U.cell? w.heap.size=k/\U.cell? (w,2)=t/\U.cell? (w,3)=v/\U.cell? (w,5)=(A,n,c)/\Le (w+1) U)/\ik w W1:=by
  refine⟨_,rfl,fun U hU=>?_,iR⟩;have y0:=(jC w 73 #[k,o,t,v,s,(A,n,c)]).after (w':=U);exact⟨by rw[y0.cell];rfl,by rw[y0.cell];rfl,by rw[y0.cell];rfl,by rw[y0.cell];rfl,y0.is_le⟩
 obtain⟨k0,k2,k3,k5,kl⟩:=HK W1 iR;go_in;go_wp2_with fail;refine (HS W1 (ij hw a1)).mono ?_;rintro e w2 ⟨rfl,a2⟩;have d2:=ij a1 a2;obtain⟨k0,k2,k3,k5,kl⟩:=HK w2 a2;by_cases J:k=1\/k=8
 ·have a6:Hid (R=if m=0 then 10 else if q then 0 else 14):=by show _=_;rw[HV.out,iG J]
  have b9:(k==9)=false:=by rw[beq_eq_false_iff_ne];omega
  by_cases j:m=0
  ·subst j
   have I:Hid (R=10):=by show _=_;rw[a6.out,iG rfl]
   rcases J with rfl | rfl
   all_goals
    go_wp2;go_ret;exact⟨by rw[I.out];rfl,d2⟩
  have ab:(0:Int)<(m:Int):=iu;have aa:((m:Int)==0)=false:=by rw[beq_eq_false_iff_ne];omega
  have a':(m==0)=false:=by rw[beq_eq_false_iff_ne];omega
  cases q with
  |true=>
   have I:Hid (R=0):=by show _=_;rw[a6.out,iV j];rfl
   rcases J with rfl | rfl
   all_goals
    go_wp2_with fail;refine (HH w2 (ij hw d2)).mono ?_;rintro e w3 ⟨rfl,a3⟩;have d3:=ij d2 a3;obtain⟨k0,k2,k3,k5,kl⟩:=HK w3 (ij a2 a3);go_wp2;go_ret;exact⟨by rw[I.out];rfl,d3⟩
  |false=>
  have I:Hid (R=14):=by show _=_;rw[a6.out,iV j];rfl
  rcases J with rfl | rfl
  all_goals
   go_wp2_with fail;refine (HH w2 (ij hw d2)).mono ?_;rintro e w3 ⟨rfl,a3⟩;have d3:=ij d2 a3;go_wp2;go_ret;exact⟨by rw[I.out];rfl,d3⟩
 replace HV:=iy (HV.trans (iV J));by_cases h9:k=9
 ·subst h9
  replace HV:=iy (HV.trans (iG rfl));by_cases j:m=0
  ·subst j
   have I:Hid (R=10):=by show _=_;rw[HV.out,iG rfl]
   go_wp2;go_ret;exact⟨by rw[I.out];rfl,d2⟩
  by_cases a7:n=m
  ·subst a7
   have I:Hid (R=0):=by show _=_;rw[HV.out,iV j,iG rfl]
   go_wp2;go_ret;exact⟨by rw[I.out];rfl,d2⟩
  have I:Hid (R=9):=by show _=_;rw[HV.out,iV j,iV a7]
  have a_:((n:Int)==(m:Int))=false:=by rw[beq_eq_false_iff_ne];omega
  go_wp2;go_ret;exact⟨by rw[I.out];rfl,d2⟩
 have I:=iy (HV.trans (iV h9));go_wp2;go_ret;exact⟨by rw[I.out];rfl,d2⟩
theorem kq {q b:Nat} {t:TypeId} {cs:Array Value} {w w':yM} (h:iP w b t cs) (e:b≠q) (a:ik (iz q w) (iz q w')):iP w' b t cs:=lM ((BR h e).after (k:=a)) e
theorem lZ {q:Nat} {w w':yM} (a:ik (iz q w) (iz q w')):w.heap.size<=w':=by have h:=a.below.size;rwa [iZ,iZ]at h
theorem Qa {b:Bool} (h:Hid (b=false)):¬b=true:=by rw[h.out];exact yE
theorem kL {c S R:Prop} (k:R) (h:¬c:=by decide):(c->S)/\R:=⟨fun x=>absurd x h,k⟩
theorem kS {A S R:Prop} (h:S) (k:R) (e:S/\R->A:=by intro e;first | exact e | exact⟨fun _=>e.1,e.2⟩):A:=e ⟨h,k⟩
theorem Ls {B:yM} {q:Nat} {A:zA} {c:Nat} {L:List Tk} {en:Int} {eA:zA} {ec:Nat} {el:List iW} {w:yM} {i r:Nat} (h:Rd B q A c L en eA ec el w i) (hr:w=r) (e:r≠q) (cs:Array Value) (T:TypeId) :
  ∃v,w.alloc (.cells cs T)=v/\ik w v/\iP (iz q v) r T cs/\Hid (Rd B q A c L en eA ec el v i)/\v=r+1:=
 ⟨_,rfl,zc,by rw[<- hr];exact BR (jC ..) (by omega),h.after zc,by rw[iH,hr]⟩
def DD (D:DataW Unit) (s:yB):Int:=match D.atKey (.string s.data.toList) (.lit (.int .i64 0)) with
 |.lit (.int _ c)=>c
 |_=>0
def Be (n:Int) (s:yB):Bool:=Maps.has (Bq (B9 n)) (.string s.data.toList)
def Ia (n:Int):List Tk->Option Int
 |[]=>none
 |t::_=>if (t.kind==3||t.kind==4)&&Be n t.text then some (DD (Bq (B9 n)) t.text) else none
theorem N' {w:yM} {b n:Nat} {D:DataW Unit} (h:sE w b n D) (s:yB) (hs:s.size<=65536) (U:yM) [a:ik w U] :
  (Instr.lookup 252 (.map (some b)) (.string s) true).run prog U=.ok (.tuple #[(DD D s),(Maps.has D (.string s.data.toList))]) U:=by
 have hU:sE U b n D:=by
  have I:=World.ownsMap.lt h;obtain⟨es,j,hb,F,J,hD⟩:=h;exact⟨es,j,(a.below.block b I).trans hb,F,J,hD⟩
 obtain⟨v,ps,o,R⟩:=World.ownsMap.look_ok hU Ns underlying252 (z:=.int .i64 0) kp (plainElem_int underlying3 iI) (WideMaps.keyOf_string_mk (s:=s) underlying9 (by unfold maxLen;omega));obtain⟨c,rfl,hc,_⟩:=plainElem_int_inv underlying3 R;rw[o];have h9:D.atKey (.string s.data.toList) (.lit (.int .i64 0))=.lit (.int .i64 c):=nQ Prod.fst hc;have:DD D s=c:=by unfold DD;rw[h9]
 rw[this]
def TB (w:yM) (r:Option Int) (e:Ending) (w':yM):Prop:=ik w w'/\match r with
 |some op=>e=.returned (.tuple #[op,true])
 |none=>∃c:Int,e=.returned (.tuple #[c,false])
section
variable {B:yM} {q:Nat} {A:zA} {c:Nat} {L:List Tk} {en:Int} {eA:zA} {ec:Nat} {el:List iW} {w:yM} {i:Nat}
theorem Fv (h:Rd B q A c L en eA ec el w i) (n:Int):Calls prog 153 #[.pointer q,n] w (TB w (Ia n (L.drop i))):=by
 obtain⟨X,hX⟩:=jt (Ia n (L.drop i));rw[hX];have HX:=iy hX;have H3:=iy (qv h 3);have a8:ju 3 (L.drop i)=true->i<L:=rX;have a7:ju 4 (L.drop i)=true->i<L:=rX;have H4:Hid (∀U,ik w U->Calls prog 34 #[.pointer (some q),.int .i64 4] U fun e w'=>e=.returned (.bool (ju 4 (L.drop i)))/\ik U w'):=fun U I=>qv (h.after I) 4
 obtain⟨R,a'⟩:=jt (ju 3 (L.drop i));obtain⟨z4,j⟩:=jt (ju 4 (L.drop i));rw[a']at H3 a8;rw[j]at H4 a7;have HZ:=iy (And.intro a' j);have H:=iy h;by_cases ad:R=false/\z4=false
 ·obtain⟨rfl,rfl⟩:=ad
  go_in;go_wp2_with fail;refine H3.mono ?_;rintro e w1 ⟨rfl,a1⟩;go_wp2_with fail;refine (H4 _ a1).mono ?_;rintro e w2 ⟨rfl,a2⟩;have ah:Hid (X=none):=by
   show _=_
   rw[<- HX.out];have h1:=HZ.1;have h2:=HZ.2;cases hd:L.drop i with
   |nil=>rfl
   |cons t l=>
   rw[hd]at h1 h2;show (if (t.kind==3||t.kind==4)&&_ then _ else _)=_
   rw[show (t.kind==3)=false from h1,show (t.kind==4)=false from h2];rfl
  go_wp2;exact jR (v:=.tuple #[JX,false]) (by simp[results,results153,go_sem]) rfl ⟨ij a1 a2,by rw[ah.out];exact⟨0,rfl⟩⟩
 have hi:i<L:=by
  cases R
  ·cases z4
   ·exact absurd ⟨rfl,rfl⟩ ad
   exact a7 rfl
  exact a8 rfl
 have ae:(R||z4)=true:=by cases R<;>cases z4<;>simp_all
 have aj:(i:Int)<(L.length:Int):=iu;have ai:(0:Int)<=(i:Int):=iu;obtain⟨b,p,kd,t,nn,rfl,hl,hy,ht,hn,t0,t1,t2⟩:=H.at_ hi;obtain⟨c0,c1,c2,c3,f2,l0⟩:=H.fields;have HK:Hid (∀U,ik w U->(U.cell? q=some (.slice (some ⟨b,p,none⟩) L.length c)/\U.cell? ⟨q,2,none⟩=some (.int .i64 (i:Nat))/\U.cell? ⟨b,p+i*3+1,none⟩=some (.string t))):=fun U I=>⟨(I.below.cell (p:=⟨q,0,none⟩) l0.le).trans c0,(I.below.cell (p:=⟨q,2,none⟩) l0.le).trans c2,(I.below.cell (p:=⟨b,p+i*3+1,none⟩) hl.le).trans t1⟩
 have HV:Hid (X=if Be n t then some (DD (Bq (B9 n)) t) else none):=by
  show _=_
  rw[<- HX.out];have h1:=HZ.1;have h2:=HZ.2;rw[oU hy.out]at h1 h2⊢;show (if (kd==3||kd==4)&&_ then _ else _)=_
  rw[show (kd==3)=R from h1,show (kd==4)=z4 from h2,ae,xI]
 have j:R=false->z4=true:=by cases R<;>cases z4<;>simp_all
 obtain⟨op,aa⟩:=jt (DD (Bq (B9 n)) t);obtain⟨oh,ab⟩:=jt (Be n t);rw[aa,ab]at HV;have HB:=iy (fun U=>IH n U);have HM:Hid (∀(w1:yM) (b2:Nat),sE w1 b2 6 (Bq (B9 n))->∀(U:yM) [ik w1 U],(Instr.lookup 252 (.map (some b2)) (.string t) true).run prog U=.ok (.tuple #[op,oh]) U):=fun w1 b2 hm U _=>by
  rw[N' hm t ht U,aa];rw[show Maps.has (Bq (B9 n)) (.string t.data.toList)=oh from ab]
 go_in;go_wp2_with fail;refine H3.mono ?_;rintro e w1 ⟨rfl,a1⟩;cases R
 ·have j:=j rfl
  subst j;go_wp2_with fail;refine (H4 _ a1).mono ?_;rintro e w2 ⟨rfl,a2⟩;have J:=ij a1 a2;have l1:Le (q+1) w2:=⟨jW l0.le J.below.size⟩;have l2:Le (b+1) w2:=⟨jW hl.le J.below.size⟩;have a_:Hid (∀U,ik w2 U->(U.cell? q=some (.slice (b,p) L.length c)/\U.cell? (q,2)=(i:Nat)/\U.cell? (b,p+i*3+1)=t)):=fun U I=>HK U (ij J I)
  go_wp2_with fail;go_region_held3 (fun V=>V.cell? q=some (.slice (b,p) L.length c)/\V.cell? (q,2)=(i:Nat)/\V.cell? (b,p+i*3+1)=t) (exact a_.out _ iR) (first | (go_at_call 171;(with_reducible refine (HB.out _).mono ?_);rintro e w5 ⟨b5,rfl,o,ag,a5⟩;have af:=HM.out w5 b5 o;have a6:ik w2 w5:=ij iR a5;clear o));go_wp2;exact jR (v:=.tuple #[op,oh]) (by simp[results,results153,go_sem]) rfl ⟨ij J a6,by
   rw[HV.out];cases oh
   ·exact⟨op,rfl⟩
   rfl⟩
 have a_:Hid (∀U,ik w1 U->(U.cell? q=some (.slice (b,p) L.length c)/\U.cell? (q,2)=(i:Nat)/\U.cell? (b,p+i*3+1)=t)):=fun U I=>HK U (ij a1 I)
 go_wp2_with fail;go_region_held3 (fun V=>V.cell? q=some (.slice (b,p) L.length c)/\V.cell? (q,2)=(i:Nat)/\V.cell? (b,p+i*3+1)=t) (exact a_.out _ iR) (first | (go_at_call 171;(with_reducible refine (HB.out _).mono ?_);rintro e w5 ⟨b5,rfl,o,ag,a5⟩;have af:=HM.out w5 b5 o;have a6:ik w1 w5:=ij iR a5;clear o));go_wp2;exact jR (v:=.tuple #[op,oh]) (by simp[results,results153,go_sem]) rfl ⟨ij a1 a6,by
  rw[HV.out];cases oh
  ·exact⟨op,rfl⟩
  rfl⟩
end
def Cb:List Tk->yB
 |[]=>⟨#[]⟩
 |t::_=>t.text
def lk (el:List iW) (t v:Int) (known:Bool) (ts:List Tk):Bool:=
 if jq ⟨#[116,114,117,101]⟩ ts||jq ⟨#[102,97,108,115,101]⟩ ts then !((known&&!(t==1))||!(jq ⟨#[116,114,117,101]⟩ ts==(v==1))||(!known&&!jq ⟨#[116,114,117,101]⟩ ts))
 else ju 1 ts&&(match qh el (Cb ts) with
  |some (u,x)=>!((known&&(!(u==t)||!(x==v)))||(!known&&!(x==0)))
  |none=>!known)
mutual
def jg (el:List iW):Nat->List Tk->Option (Ex×List Tk)
 |0,_=>none
 |k+1,ts=>(jB el k 0 ts).bind fun (a,r)=>if jq ⟨#[45,62]⟩ r then (jg el k r.tail).bind fun (b,r)=>some (.mk 6 0 0 0 ⟨#[]⟩ [a,b],r) else if jq ⟨#[102,98,121]⟩ r then (jg el k r.tail).bind fun (b,r)=>some (.mk 7 0 0 0 ⟨#[]⟩ [a,b],r) else some (a,r)
def jB (el:List iW):Nat->Int->List Tk->Option (Ex×List Tk)
 |0,_,_=>none
 |k+1,n,ts=>if n=2 then (if jq ⟨#[110,111,116]⟩ ts then (jB el k 2 ts.tail).bind fun (a,r)=>some (.mk 3 1 0 0 ⟨#[]⟩ [a],r) else jB el k 3 ts) else if n=6 then xu el k ts else (jB el k (n+1) ts).bind fun (a,r)=>sK el k n a r
def sK (el:List iW):Nat->Int->Ex->List Tk->Option (Ex×List Tk)
 |0,_,_,_=>none
 |k+1,n,a,ts=>match Ia n ts with
  |none=>some (a,ts)
  |some op=>(jB el k (n+1) ts.tail).bind fun (b,r)=>if n=3 then some (.mk 3 op 0 0 ⟨#[]⟩ [a,b],r) else sK el k n (.mk 3 op 0 0 ⟨#[]⟩ [a,b]) r
def xu (el:List iW):Nat->List Tk->Option (Ex×List Tk)
 |0,_=>none
 |k+1,ts=>if rI ts then (kV el k ts).bind fun (e,r)=>mO el k e r
  else if jq ⟨#[45]⟩ ts then (xu el k ts.tail).bind fun (a,r)=>some (.mk 3 2 0 0 ⟨#[]⟩ [a],r)
  else if jq ⟨#[112,114,101]⟩ ts then (xu el k ts.tail).bind fun (a,r)=>some (.mk 5 0 0 0 ⟨#[]⟩ [a],r)
  else (kV el k ts).bind fun (e,r)=>mO el k e r
def mO (el:List iW):Nat->Ex->List Tk->Option (Ex×List Tk)
 |0,_,_=>none
 |k+1,e,ts=>if jq ⟨#[119,104,101,110]⟩ ts then (mD el ts.tail).bind fun (o,r)=>mO el k (.mk 8 0 o.t o.tag o.name [e]) r else some (e,ts)
def kV (el:List iW):Nat->List Tk->Option (Ex×List Tk)
 |0,_=>none
 |k+1,ts=>if rI ts then some (.mk 1 0 2 (-(rY (Cb ts.tail))) ⟨#[]⟩ [],ts.tail.tail)
  else if jq ⟨#[45]⟩ ts then none
  else if ju 2 ts then (if 32767<rY (Cb ts) then none else some (.mk 1 0 2 (rY (Cb ts)) ⟨#[]⟩ [],ts.tail))
  else if ju 5 ts then some (.mk 11 0 0 0 (Cb ts) [],ts.tail)
  else if jq ⟨#[116,114,117,101]⟩ ts then some (.mk 1 0 1 1 ⟨#[]⟩ [],ts.tail)
  else if jq ⟨#[102,97,108,115,101]⟩ ts then some (.mk 1 0 1 0 ⟨#[]⟩ [],ts.tail)
  else if jq ⟨#[40]⟩ ts then (jg el k ts.tail).bind fun (e,r)=>(iF [⟨#[41]⟩] r).bind fun (_,r)=>some (e,r)
  else if jq ⟨#[105,102]⟩ ts then (jg el k ts.tail).bind fun (c,r)=>(iF [⟨#[116,104,101,110]⟩] r).bind fun (_,r)=>(jg el k r).bind fun (a,r)=>(iF [⟨#[101,108,115,101]⟩] r).bind fun (_,r)=>(jg el k r).bind fun (b,r)=>some (.mk 4 0 0 0 ⟨#[]⟩ [c,a,b],r)
  else if jq ⟨#[109,101,114,103,101]⟩ ts then tI el k ts.tail
  else (pV ts).bind fun (s,r)=>if jq ⟨#[40]⟩ r then sU el k s r.tail else match qh el s with
   |some (t,v)=>some (.mk 1 0 t v ⟨#[]⟩ [],r)
   |none=>some (.mk 2 0 0 0 s [],r)
def sU (el:List iW):Nat->yB->List Tk->Option (Ex×List Tk)
 |0,_,_=>none
 |k+1,s,ts=>if jq ⟨#[41]⟩ ts then oR el k s [] ts.tail else (jg el k ts).bind fun (a,r)=>(rF el k [a] r).bind fun (l,r)=>(iF [⟨#[41]⟩] r).bind fun (_,r)=>oR el k s l r
def rF (el:List iW):Nat->List Ex->List Tk->Option (List Ex×List Tk)
 |0,_,_=>none
 |k+1,l,ts=>if jq ⟨#[44]⟩ ts then (jg el k ts.tail).bind fun (a,r)=>rF el k (l++[a]) r else some (l,ts)
def oR (el:List iW):Nat->yB->List Ex->List Tk->Option (Ex×List Tk)
 |0,_,_,_=>none
 |k+1,s,l,ts=>if jq ⟨#[101,118,101,114,121]⟩ ts then (kV el k ts.tail).bind fun (x,r)=>some (.mk 10 0 0 1 s (l++[x]),r) else some (.mk 10 0 0 0 s l,ts)
def tI (el:List iW):Nat->List Tk->Option (Ex×List Tk)
 |0,_=>none
 |k+1,ts=>(pV ts).bind fun (s,r)=>(iF [⟨#[40]⟩] r).bind fun (_,r)=>if lk el 0 (if jq ⟨#[116,114,117,101]⟩ r then 1 else 0) false r then (l_ el r).bind fun (tv,r)=>(iF [⟨#[45,62]⟩] r).bind fun (_,r)=>(jg el k r).bind fun (x,r)=>(iF [⟨#[41]⟩] r).bind fun (_,r)=>we el k s tv.1 (jV el tv.1) [x] r else none
def we (el:List iW):Nat->yB->Int->Nat->List Ex->List Tk->Option (Ex×List Tk)
 |0,_,_,_,_,_=>none
 |k+1,s,t,n,l,ts=>if l<n then (iF [⟨#[40]⟩] ts).bind fun (_,r)=>if lk el t (if t=1 then 1-(l:Int) else l.length) true r then (l_ el r).bind fun (tv,r)=>if tv.1=t then (iF [⟨#[45,62]⟩] r).bind fun (_,r)=>(jg el k r).bind fun (x,r)=>(iF [⟨#[41]⟩] r).bind fun (_,r)=>we el k s t n (l++[x]) r else none else none
  else some (.mk 9 0 t 0 s (if t=1 then l.reverse else l),ts)
end
def old (n:Nat) (w:yM):yM:={ w with heap:=w.heap.mapIdx fun i o=>if i<n then .cells #[] 0 (0,0) else o }
section
variable {q n m:Nat} {w w':yM}
theorem ku (n:Nat) (w:yM):(old n w).heap.size=w.heap.size:=by simp[old]
theorem lV (w:yM) {b:Nat} (h:n<=b):(old n w).heap[b]?=w.heap[b]?:=by
 unfold old;simp only[Array.getElem?_mapIdx];cases w.heap[b]? with
 |none=>rfl
 |some o=>simp[Nat.not_lt.2 h]
theorem qZ (w:yM) {b:Nat} (h:b<n) (hb:b<w):(old n w).heap[b]?=some (.cells #[] 0 (0,0)):=by
 unfold old;simp only[Array.getElem?_mapIdx,Array.getElem?_eq_getElem hb,Option.map_some,iG h]
theorem C9 (w:yM) {b o:Nat} {v:Value} (h:b<n) (hc:(old n w).cell? (b,o)=some v):False:=by
 have j:=World.block_lt_of_cell? (old n w) ⟨b,o,none⟩ hc;rw[ku]at j;rw[cell_of_row (old n w) b o #[] 0 (0,0) (qZ w h j)]at hc;simp at hc
theorem vk (n:Nat) (w:yM):CU (old n w) w:=by
 refine⟨lI (ku n w),fun b o v h=>?_⟩;by_cases e:b<n
 ·exact (C9 w e h).elim
 rwa [Dj (w:=old n w) (w':=w) (a:=(b,o)) (lV w (wb e)).symm]
theorem iS (h:n<=m) (w:yM):CU (old m w) (old n w):=by
 refine⟨by rw[ku,ku];exact js _,fun b o v j=>?_⟩;by_cases e:b<m
 ·exact (C9 w e j).elim
 have I:=wb e;rw[Dj (w:=old m w) (w':=old n w) (a:=(b,o)) ((lV w (jW h I)).trans (lV w I).symm)];exact j
theorem kj (hq:q<n) (a:ik (iz q w) (iz q w')):ik (old n w) (old n w'):=by
 have I:=a.below.size;rw[iZ,iZ]at I;refine⟨⟨a.below.os,a.below.tape,a.below.output,by rw[ku,ku];exact I,fun b o=>?_⟩⟩;rw[ku]at o;by_cases e:b<n
 ·rw[qZ w e o,qZ w' e (rO o I)]
 have J:=wb e;have j:b≠q:=iu;rw[lV w J,lV w' J];have:=a.below.block b (by rw[iZ];exact o);rwa [km w' j,km w j]at this
theorem jK (a:ik w w'):ik (old n w) (old n w'):=by
 refine⟨⟨a.below.os,a.below.tape,a.below.output,by rw[ku,ku];exact a.below.size,fun b j=>?_⟩⟩;rw[ku]at j;by_cases e:b<n
 ·rw[qZ w e j,qZ w' e (rO j a.below.size)]
 rw[lV w (wb e),lV w' (wb e)];exact a.below.block b j
theorem j' {r:Nat} (h:r<n) (w:yM) (i:Nat) (v:Value):ik (old n w) (old n (w.setCell (r,i) v)):=by
 refine⟨⟨rfl,rfl,rfl,by rw[ku,ku,jc];exact js _,fun b j=>?_⟩⟩;rw[ku]at j;by_cases e:b<n
 ·rw[qZ w e j,qZ _ e (by rw[jc];exact j)]
 rw[lV w (wb e),lV _ (wb e)];exact Below.heap_setCell w _ v b (by show b≠r;omega)
theorem iP.old {b:Nat} {t:TypeId} {cs:Array Value} (h:iP w b t cs) (hb:n<=b):iP (old n w) b t cs:=(lV w hb).trans h
end
def jj (y:Tx):zO:=[y.kind,y.op,y.ty,y.va,y.name,(y.ad,y.args,y.cap)]
def VX (n:Nat) (x:Ex) (w:yM) (v:Value):Prop:=∃y:Tx,y.er=x/\v=y.val/\RX (old n w) y
def qP (w:yM) (r:Nat) (y:Tx):Prop:=iP w r 73 (jj y).toArray
def oE:Tx:=.mk 0 0 0 0 ⟨#[]⟩ none 0 []
theorem QW (l:List Tx):Tx.kv l=l.map Tx.er:=by
 induction l with
 |nil=>rw[Tx.kv];rfl
 |cons a l ih=>rw[Tx.kv,ih];rfl
theorem qp (k o t v:Int) (s:yB) (A:zA) (c:Nat) (xs:List Tx):(Tx.mk k o t v s A c xs).er=.mk k o t v s (xs.map Tx.er):=by rw[Tx.er,QW]
theorem xX.De {w:yM} {b:Nat}:∀{ys:List Tx} {o:Nat},(∀j u,(ys.flatMap jj)[j]?=some u->w.cell? ⟨b,o+j,none⟩=some u)->(∀y∈ys,RX w y)->xX w b o ys
 |[],o,_,_=>by rw[xX];trivial
 |y::ys,o,h,hr=>by
  rw[xX];have h6:∀j u,(jj y)[j]?=some u->w.cell? ⟨b,o+j,none⟩=some u:=fun j u hu=>h j u (by
   rw[pZ];rw[wk (rq.1 hu).1];exact hu)
  refine⟨⟨h6 0 _ rfl,h6 1 _ rfl,h6 2 _ rfl,h6 3 _ rfl,h6 4 _ rfl,h6 5 _ rfl⟩,hr y (nG ..),xX.De (fun j u hu=>?_) fun z hz=>hr z (qj _ hz)⟩;rw[CL];exact h (6+j) u (by
   rw[pZ,xK (by show 6<=6+j;omega)];show (ys.flatMap jj)[6+j-6]?=_
   rw[Nc];exact hu)
theorem RX.lit {w:yM} {g:Nat} {T:TypeId} {ys:List Tx} (hb:iP w g T (ys.flatMap jj).toArray) (hr:∀y∈ys,RX w y) (hl:ys.length<=65536) (k o t v:Int) (s:yB) (hs:s.size<=65536):RX w (.mk k o t v s (some g) ys.length ys):=by
 rw[RX];refine⟨iu,js _,iu,iu,.inr ⟨g,0,rfl,hb.lt,xX.De (fun j u I=>?_) hr⟩⟩;rw[hb.cell,t_,<- Array.getElem?_toList];exact I
theorem RX.leaf {w:yM} (k o t v:Int) (s:yB) (hs:s.size<=65536):RX w (.mk k o t v s none 0 []):=by
 rw[RX];exact⟨iu,js _,iu,by simp,.inl rfl⟩
section
variable {B:yM} {q:Nat} {A:zA} {c:Nat} {L:List Tk} {en:Int} {eA:zA} {ec:Nat} {el:List iW} {w w0 w1 w':yM} {i:Nat}
theorem jY {r:Nat} {z:Tx} (hB:qP w1 r z) (R:Rd B q A c L en eA ec el w1 i) (hrq:r≠q) (aw:ik (iz q w0) (iz q w1)) (hr:w0<=r) (hB0:B<=r) (y:Tx) :
  ∃W,(((((w1.setCell r (.int .i64 y.kind)).setCell (r,1) (.int .i64 y.op)).setCell (r,2) (.int .i64 y.ty)).setCell (r,3) (.int .i64 y.va)).setCell (r,4) (.string y.name)).setCell (r,5) (.slice y.ad y.args y.cap)=W /\
   qP W r y/\Rd B q A c L en eA ec el W i/\ik (iz q w0) (iz q W)/\(∀n,r<n->ik (old n w1) (old n W))/\W.heap.size=w1:=by
 have U:=(((((hB.jx 0 (.int .i64 y.kind)).jx 1 (.int .i64 y.op)).jx 2 (.int .i64 y.ty)).jx 3 (.int .i64 y.va)).jx 4 (.string y.name)).jx 5 (.slice y.ad y.args y.cap);have o:uD (iz q w0) r:=ko hr;have I:uD B r:=⟨hB0⟩;have F:∀{u:yM} {T:TypeId} {cs:Array Value} (j:Nat) (v:Value),iP u q T cs->iP (u.setCell (r,j) v) q T cs:=fun j v J=>J.qU (p:=(r,j)) (ls hrq) v
 refine⟨_,rfl,U,⟨F 5 _ (F 4 _ (F 3 _ (F 2 _ (F 1 _ (F 0 _ R.blk))))),?_,R.le,R.tk,R.ens,R.few,R.num⟩,?_,fun n o=>?_,by simp only[jc]⟩
 ·exact iJ (h:=iJ (h:=iJ (h:=iJ (h:=iJ (h:=iJ (h:=R.aft) 0 _) 1 _) 2 _) 3 _) 4 _) 5 _
 ·exact iJ (h:=iJ (h:=iJ (h:=iJ (h:=iJ (h:=iJ (h:=aw) 0 _) 1 _) 2 _) 3 _) 4 _) 5 _
 exact ij (ij (ij (ij (ij (j' o _ 0 _) (j' o _ 1 _)) (j' o _ 2 _)) (j' o _ 3 _)) (j' o _ 4 _)) (j' o _ 5 _)
theorem rx_ {B:yM} {q:Nat} {A:zA} {c:Nat} {L:List Tk} {en:Int} {eA:zA} {ec:Nat} {el:List iW} {w w0 w1:yM} {r i i0:Nat} {X:Option (Ex×List Tk)} {x:Ex} {y:Tx} {Q:Prop} (J:qP w1 r oE) (R:Rd B q A c L en eA ec el w1 i) (hrq:r≠q) (a:ik (iz q w0) (iz q w1)) (aw0:ik w w0) (hr:w=r) (le:Hid (i0<=i)) (HX:X=some (x,L.drop i)) (E:RX (old w0 w1) y) (hy:y.er=x:=by rw[qp];rfl) (hB:B<=r:=by omega) (hw:r<w0:=by omega)
  (H:qP w1 r oE->w.heap.size<=w0/\r<w0->∀W,(((((w1.setCell r (.int .i64 y.kind)).setCell (r,1) (.int .i64 y.op)).setCell (r,2) (.int .i64 y.ty)).setCell (r,3) (.int .i64 y.va)).setCell (r,4) (.string y.name)).setCell (r,5) (.slice y.ad y.args y.cap)=W->qP W r y->Hid (∀n,n<=w0.heap.size->pk B q A c L en eA ec el w i0 X (VX n) (.returned y.val) W)->Q:=by
   intro J hn W hW EW HR;obtain⟨n0,n1,n2,n3,n4,n5⟩:=J.cells;have nl:=J.is_le;obtain⟨f0,f1,f2,f3,f4,f5⟩:=iP.f6 J;try simp only[txs,List.length_cons,List.length_nil,Nat.reduceAdd]at hW
   go_wp2_with fail;try rw[hW]
   obtain⟨u0,u1,u2,u3,u4,u5⟩:=EW.cells;try simp only[txs,List.length_cons,List.length_nil,Nat.reduceAdd]at u0 u1 u2 u3 u4 u5
   exact bodyPost_ret (by simp[results,results170,results116,results71,results152,results178,results179,go_sem,Tx.val,txs,u0,u1,u2,u3,u4,u5]) rfl (HR.out _ iu)):Q:=by
 obtain⟨W,hW,EW,RW,aW,oW,sW⟩:=jY J R hrq (ij (im aw0) a) (Nat.le_of_eq hr) hB y;exact H J ⟨by omega,hw⟩ W hW EW fun n hn=>pk.some HX aW ⟨y,hy,rfl,(E.below (oW w0 hw).below).sub (iS hn W)⟩ RW rfl le
theorem qP.cells {r:Nat} {y:Tx} (h:qP w r y):w.cell? r=y.kind/\w.cell? (r,1)=y.op/\w.cell? (r,2)=y.ty/\w.cell? (r,3)=y.va/\w.cell? (r,4)=y.name/\w.cell? (r,5)=(y.ad,y.args,y.cap):=
 ⟨(uJ h 0).trans rfl,(uJ h 1).trans rfl,(uJ h 2).trans rfl,(uJ h 3).trans rfl,(uJ h 4).trans rfl,(uJ h 5).trans rfl⟩
end
abbrev yV:=@iP.old
abbrev xS:=@RX.lit
abbrev yS:=@RX.leaf
abbrev Iy:=@qP.cells
end Go.Proofs.YtnigblndonocfaaGreatDoor
