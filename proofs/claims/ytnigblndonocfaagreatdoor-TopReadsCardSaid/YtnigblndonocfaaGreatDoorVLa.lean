/- A part of the proof. -/
import Derived.Test.YtnigblndonocfaaGreatDoorVRb
set_option linter.unusedVariables false
set_option linter.unusedSimpArgs false
namespace Go.Proofs.YtnigblndonocfaaGreatDoor
set_option maxRecDepth 100000
set_option maxHeartbeats 6400000
open Go.RowKit Go.BigFrame
def Sb:ByteArray:=⟨#[110,111,100,101,32,102,40,41,32,114,101,116,117,114,110,115,32,40,120,58,32,105,110,116,41,32,108,101,116,32,120,32,61,32,49,32,45,62,32,50,59,32,116,101,108]⟩
def yB:Tx:=.mk 6 0 0 0 ⟨#[]⟩ none 0 [.mk 1 0 2 1 ⟨#[]⟩ none 0 [],.mk 1 0 2 2 ⟨#[]⟩ none 0 []]
def N2:nh:=⟨⟨#[102]⟩,⟨none,0,[]⟩,⟨none,0,[⟨⟨#[120]⟩,2,⟨none,0,[]⟩⟩]⟩,⟨none,0,[]⟩,⟨none,0,[⟨⟨none,0,[⟨#[120]⟩]⟩,yB⟩]⟩,⟨none,0,[]⟩,⟨none,0,[]⟩,⟨none,0,[]⟩⟩
theorem QL:xF 1=⟨#[49]⟩:=by
 have h:(xF 1).data.toList=[49]:=by rw[qV];exact Aa iI
 generalize xF 1=y at h;cases y;congr 1;exact Array.toList_inj.1 h
theorem Rl:xF 2=⟨#[50]⟩:=by
 have h:(xF 2).data.toList=[50]:=by rw[qV];exact Aa iI
 generalize xF 2=y at h;cases y;congr 1;exact Array.toList_inj.1 h
def SP:List Pc:=[mB [110,111,100,101],.sp 32,rM ⟨#[102]⟩,mf [40],mf [41],.sp 32,mB [114,101,116,117,114,110,115],.sp 32,mf [40],rM ⟨#[120]⟩,mf [58],.sp 32,mB [105,110,116],mf [41],.sp 32,mB [108,101,116],.sp 32,rM ⟨#[120]⟩,.sp 32,mf [61],.sp 32,.tk ⟨2,⟨#[49]⟩⟩,.sp 32,mf [45,62],.sp 32,.tk ⟨2,⟨#[50]⟩⟩,mf [59],.sp 32,mB [116,101,108]]
theorem Rc:Sb.data.toList=iY SP:=by decide +kernel
theorem RO:zE 32 SP=true:=by decide +kernel
theorem Qj (x:Ex) (hx:x=yB.er):kX [] x=[.tk ⟨2,⟨#[49]⟩⟩,.sp 32,mf [45,62],.sp 32,.tk ⟨2,⟨#[50]⟩⟩]:=by
 have h:kX [] yB.er=[.tk ⟨2,xF 1⟩,.sp 32,mf [45,62],.sp 32,.tk ⟨2,xF 2⟩]:=rfl;rw[hx,h,QL,Rl]
theorem OF:toks (qK [] [N2])=toks SP:=by
 have h:qK [] [N2]=([]:List Pc)++((ya [] N2++(nr [] 1 []++([]++([]++(rL 0 [mB [108,101,116]]++((rL 1 (vU [⟨#[120]⟩]++.sp 32::mf [61]::.sp 32::(kX [] yB.er++[mf [59]]))++[])++[]++rL 0 [mB [116,101,108]]))))))++[]):=rfl;rw[h,Qj _ rfl];rfl
theorem SU:kT ⟨#[102]⟩=true:=by decide +kernel
theorem Se:kT ⟨#[120]⟩=true:=by decide +kernel
theorem SZ:qk [] yB=0:=by
 have R:uo yB=0:=by
  show Ay 6 0 0 0 ⟨#[]⟩ 2=0
  simp[Ay,xJ,fA,fO,fT,fN,fW,mG]
 have o:∀v:Int,v=1\/v=2->uo (.mk 1 0 2 v ⟨#[]⟩ none 0 [])=0:=fun v I=>by
  show Ay 1 0 2 v ⟨#[]⟩ 0=0
  rcases I with rfl | rfl
  ·simp[Ay,xJ,fA,fO,fT,fN,fW,mG]
  simp[Ay,xJ,fA,fO,fT,fN,fW,mG]
 have j:yB.list=[yB,.mk 1 0 2 1 ⟨#[]⟩ none 0 [],.mk 1 0 2 2 ⟨#[]⟩ none 0 []]:=rfl;have J:vj yB=0:=by
  unfold vj;rw[iV (by rw[show yB.size=3 from rfl,show yB.depth=2 from rfl];decide),j,kR,iG R,kR,iG (o 1 (.inl rfl)),kR,iG (o 2 (.inr rfl)),kR]
 unfold qk;rw[iG J,j];rfl
theorem M8:(nv [] [N2]).2.2=0:=by
 have j:rN [] ⟨⟨none,0,[⟨#[120]⟩]⟩,yB⟩=0:=by
  unfold rN;simp only[];rw[SZ];simp[iw,jA,Se,jD,iX]
 have o:mY [] N2=0:=by
  unfold mY Ek KN nN N2;simp only[];rw[show iw (rN []) [⟨⟨none,0,[⟨#[120]⟩]⟩,yB⟩]=0 from by rw[iw,j];rfl];simp[iw,jA,SU,Se,jD,iX,jN,jV]
 unfold nv;rw[iG (by simp[Im,iw,jD,iX]),qy,iG o,qy]
theorem PH:∀n∈[N2].map nh.er,QB [] n:=fun n hn=>by
 rw[mJ,tW,yw]at hn;subst hn;have hl:∀v:Int,Qx [] 1 0 2 v ⟨#[]⟩ 0:=fun v=>⟨iI,fun _ h=>absurd h iI,fun h=>absurd h iI,fun h=>absurd h iI,fun h=>absurd h iI⟩
 have hx:AX [] yB.er:=by
  show AX [] (.mk 6 0 0 0 ⟨#[]⟩ [.mk 1 0 2 1 ⟨#[]⟩ [],.mk 1 0 2 2 ⟨#[]⟩ []])
  rw[AX,tj,tj,tj,AX,AX,tj];exact⟨xO iI iI iI iI iI,⟨hl 1,trivial⟩,⟨hl 2,trivial⟩,trivial⟩
 refine⟨fun d j=>(by cases j),fun d j=>?_,fun d j=>(by cases j),fun q I=>?_,(by show tZ [] [];rw[tZ];trivial),fun d j=>(by cases j),fun d j=>(by cases j)⟩
 ·have j:d∈[(⟨⟨#[120]⟩,2,[]⟩:FZ)]:=j
  rw[yw]at j;subst j;exact⟨fun h=>absurd h iI,fun o J=>by cases J⟩
 have I:q∈[(⟨[⟨#[120]⟩],yB.er⟩:En)]:=I;rw[yw]at I;subst I;exact hx
theorem Ix:¬xW Sb/\∀pg':Il,wM Sb pg'->([]:List iW).map iW.er=pg'.enums.l.map iW.er/\[N2].map nh.er=pg'.nodes.l.map nh.er:=
 Ei (by rw[OF];exact Gn Rc RO iI) M8 PH
theorem Fj {α β:Type} {f:α->β} {b:β}:∀{l:List α},[b]=l.map f->∃a,l=[a]/\f a=b
 |[],h=>by cases h
 |[a],h=>by injection h with h _;exact⟨a,rfl,h.symm⟩
 |a::c::l,h=>by injection h with _ h;cases h
theorem uI {α β:Type} {f:α->β}:∀{l:List α},[]=l.map f->l=[]
 |[],_=>rfl
 |a::l,h=>by cases h
theorem OU {pg:Il} (h1:([]:List iW).map iW.er=pg.enums.l.map iW.er) (h2:[N2].map nh.er=pg.nodes.l.map nh.er):(iY (qK pg.enums.l pg.nodes.l)).length<=65536/\pg.nodes.l.length=1:=by
 obtain⟨n,e1,e2⟩:=Fj h2;rw[uI h1,e1];obtain⟨nn,⟨iA,ic,il⟩,⟨oA,oc,ol⟩,⟨lA,lc,ll⟩,⟨qA,qc,ql⟩,⟨aA,ac,al⟩,⟨sA,sc,sl⟩,⟨J,I,nl⟩⟩:=n;unfold nh.er N2 at e2;injection e2 with g1 g2 g3 g4 g5 g6 g7 g8
 simp only[]at g1 g2 g3 g4 g5 g6 g7 g8;obtain⟨⟨dn,dt,⟨dA,dc,dl⟩⟩,f1,U⟩:=Fj g3.symm;obtain⟨⟨⟨o,j,a1⟩,y⟩,f3,R⟩:=Fj g5.symm;have f5:=uI g2.symm;have f6:=uI g4.symm;have f7:=uI g6.symm;have f8:=uI g7.symm;have f9:=uI g8.symm;unfold iO.er at U;injection U with k1 k2 k3
 unfold oX.er at R;injection R with k4 k5
 simp only[]at k1 k2 k3 k4 k5;subst f1 f3 f5 f6 f7 f8 f9 g1 k1 k2 k3 k4;have h:qK [] [⟨⟨#[102]⟩,⟨iA,ic,[]⟩,⟨oA,oc,[⟨⟨#[120]⟩,2,⟨dA,dc,[]⟩⟩]⟩,⟨lA,lc,[]⟩,⟨qA,qc,[⟨⟨o,j,[⟨#[120]⟩]⟩,y⟩]⟩,⟨aA,ac,[]⟩,⟨sA,sc,[]⟩,⟨J,I,[]⟩⟩]=([]:List Pc)++((ya [] N2++(nr [] 1 []++([]++([]++(rL 0 [mB [108,101,116]]++((rL 1 (vU [⟨#[120]⟩]++.sp 32::mf [61]::.sp 32::(kX [] y.er++[mf [59]]))++[])++[]++rL 0 [mB [116,101,108]]))))))++[]):=rfl;rw[h,Qj _ k5];exact⟨by decide +kernel,rfl⟩
section
open Go.Proofs.Tryz
theorem Ic {w U:World} (h:Lib.TabIs prog w "internal/strconv.uint64pow10" .u64 Lib.pow10Tab) (hU:ik w U):Lib.TabIs prog U "internal/strconv.uint64pow10" .u64 Lib.pow10Tab:=Go.Joins.tab_stays QR h hU.below (js _)
theorem BE {w w':World} (h:ik w w'):∃y,w'=w.more y:=jP w w'
theorem Qd {s:ByteArray} {w1:World} {eA nA:Option Addr} {ec nc:Nat} {el:List iW} {nl:List nh} (hr:FJ True w1 ⟨⟨eA,ec,el⟩,⟨nA,nc,nl⟩⟩) (hg:wM s ⟨⟨eA,ec,el⟩,⟨nA,nc,nl⟩⟩) (htab:Lib.TabIs prog w1 "internal/strconv.uint64pow10" .u64 Lib.pow10Tab) :
  ∃T:ByteArray,T.data.toList=iY (qK el nl)/\T.size<=140737488355328/\∀U,ik w1 U->Calls prog 6 #[.agg #[.slice eA el.length ec,.slice nA nl.length nc]] U fun e w'=>e=.returned (.tuple #[T,.int .i64 0])/\ik U w':=by
 have hl:=Mg hg;obtain⟨ts,r,h1,h2,h3,h4,h5,h6⟩:=hg;exact⟨lG (iY (qK el nl)),rfl,by rw[yK];exact hl,fun U hU=>Iv hr.enums hr.nodes htab h6 hl U hU⟩
theorem Dv (w:World) (htab:Lib.TabIs prog w "internal/strconv.uint64pow10" .u64 Lib.pow10Tab) (s:ByteArray) (hs:s.size<=140737488355328) :
  Calls prog 3 #[s] w fun e w'=>e=.returned (.bool true)/\∃y,w'=w.more y:=by
 have HP1:=iy (xp Sb iI w);have HPs:=iy (fun U=>xp s hs U);have HT:=iy htab;unfold Sb at HP1;go_in;go_wp2_with fail;refine HP1.mono ?_;rintro e w1 ⟨a1,v,a,er,rfl,hq⟩;rcases hq with⟨-,-,hb⟩ | ⟨rfl,pg,rfl,hr,hgd⟩
 ·exact absurd hb Ix.1
 replace hr:=hr.sub (vk _ _);obtain⟨q1,q2⟩:=Ix.2 pg hgd;obtain⟨l1,l2⟩:=OU q1 q2;obtain⟨⟨eA,ec,el⟩,⟨nA,nc,nl⟩⟩:=pg;obtain⟨T,t1,t2,hS⟩:=Qd hr hgd (Ic HT a1);obtain⟨b1,b2⟩:=Et hgd t1 (by rw[<- jr,t1];exact l1);simp only[]at l1 l2;have HS:=iy hS;have HR:=iy hr;have HB:=iy b2;have HPt:=iy (fun U=>xp T t2 U);unfold Gt;simp only[l2];rw[l2]at HS;go_wp2_with fail;refine (HS _ inferInstance).mono ?_;rintro e w2 ⟨rfl,a2⟩;have B2:=iB ((jC w1 25 #[.slice eA el.length ec,.slice nA 1 nc]).after (k:=a2));go_wp2_with fail;refine (HPt _).mono ?_;rintro e w3 ⟨a3,v3,a',er',rfl,hq⟩;rcases hq with⟨-,-,hb⟩ | ⟨rfl,pg2,rfl,hr2,hgd2⟩
 ·exact absurd hb b1
 replace hr2:=hr2.sub (vk _ _);obtain⟨q1,q2⟩:=HB pg2 hgd2;obtain⟨⟨eA2,ec2,el2⟩,⟨nA2,nc2,nl2⟩⟩:=pg2;have hsame:=Kl (p:=⟨⟨eA,ec,el⟩,⟨nA,nc,nl⟩⟩) q1 q2;have a13:ik w1 w3:=ij (ij inferInstance a2) a3;have HQ:=iB (fun U (hU:ik w3 U)=>Dy (HR.here w3).enums hr2.enums (HR.here w3).nodes hr2.nodes U hU);simp only[l2,hsame]at HQ;have B3:=B2.after (k:=a3);have c0:=B3.cell 0;have c1:=B3.cell 1;have lb:Le (w1.heap.size+1) w3:=⟨B3.lt⟩;unfold Gt;simp only[];go_wp2_with fail;refine (HQ _ inferInstance).mono ?_;rintro e w4 ⟨rfl,a4⟩;have a14:=ij a13 (ij iR a4);have aw4:ik w w4:=ij a1 a14;have B8:=iy ((jC w3 25 #[.slice eA2 el2.length ec2,.slice nA2 nl2.length nc2]).after (k:=a4));go_wp2_with fail;refine (HPs _).mono ?_;rintro e w5 ⟨a5,v5,a',er5,rfl,hq⟩;rcases hq with⟨h0,rfl,hb⟩ | ⟨rfl,pg3,rfl,hr3,hgd3⟩
 ·have hb0:(er5==0)=false:=by simpa using h0
  go_wp2_with fail;go_ret;exact⟨rfl,BE (ij (ij aw4 a5) iR)⟩
 have hro:=iy hr3;replace hr3:=hr3.sub (vk _ _);obtain⟨⟨eA3,ec3,el3⟩,⟨nA3,nc3,nl3⟩⟩:=pg3;have aw5:=ij aw4 a5;obtain⟨T3,t1,t2,hS⟩:=Qd hr3 hgd3 (Ic HT aw5);have HS3:=iy hS;have HR3:=iy hr3;have HPt3:=iy (fun U=>xp T3 t2 U);have HG3:=iy hgd3;have HT3:=iy t1;have B5:=iy (B8.after (k:=a5));unfold Gt;simp only[];clear hS hr3 hgd3 t1 t2 HPs;go_wp2_with fail;refine (HS3 _ iR).mono ?_;rintro e w6 ⟨rfl,a6⟩;have aw6:=ij aw5 (ij iR a6);have B11:=iy ((jC w5 25 #[.slice eA3 el3.length ec3,.slice nA3 nl3.length nc3]).after (k:=a6));go_wp2_with fail;refine (HPt3 _).mono ?_;rintro e w7 ⟨a7,v7,a',er7,rfl,hq⟩;have aw7:=ij aw6 a7;have B11':=B11.after (k:=a7);have B8':=(B5.after (w':=w5.alloc (.cells #[.slice eA3 el3.length ec3,.slice nA3 nl3.length nc3] 25)) (k:=iR)).after (k:=ij a6 a7);have aw3:ik w w3:=ij a1 a13;have h38:w.heap.size<=w3.heap.size:=aw3.below.size;have h311:w3.heap.size<w5.heap.size:=rO B8.lt a5.below.size;have x0:=B8'.cell 0;have x1:=B8'.cell 1;have f0:=B8'.frozen 0;have f1:=B8'.frozen 1;have l8:Le (w3.heap.size+1) w7:=⟨B8'.lt⟩;simp only[List.getElem?_toArray,List.getElem?_cons_zero,List.getElem?_cons_succ]at x0 x1;by_cases hbig:65536<T3.size
 ·have hv7:∃A n c A' n' c',v7=.agg #[.slice A n c,.slice A' n' c']:=by
   rcases hq with⟨-,h,-⟩ | ⟨-,pg7,h,-,-⟩
   ·exact⟨_,_,_,_,_,_,h⟩
   exact⟨_,_,_,_,_,_,h⟩
  obtain⟨A9,n9,c9,A9',n9',c9',rfl⟩:=hv7;have hbI:(65536:Int)<(T3.size:Int):=by omega
  clear hq;go_wp2_with fail;go_ret;exact⟨rfl,BE (pQ (h:=pQ (h:=aw7) (k:=⟨h38⟩) _ _) (k:=⟨h38⟩) _ _)⟩
 obtain⟨g1,g2⟩:=Et HG3 HT3 iu;rcases hq with⟨-,-,hb⟩ | ⟨rfl,pg7,rfl,hr7,hgd7⟩
 ·exact absurd hb g1
 obtain⟨q1,q2⟩:=g2 pg7 hgd7;obtain⟨⟨eA7,ec7,el7⟩,⟨nA7,nc7,nl7⟩⟩:=pg7;have hsame:=Kl (p:=⟨⟨eA3,ec3,el3⟩,⟨nA3,nc3,nl3⟩⟩) q1 q2;have hlt4:w3.heap.size<w4.heap.size:=B8.lt;have hlt6:=rO hlt4 (jW a5.below.size (jW (by simp) a6.below.size));have a57:ik w5 w7:=ij (ij iR a6) a7;obtain⟨W8,hW8,aW8,C8,C11,hp3,hp7⟩:∃z,(w7.setCell ⟨w3.heap.size,0,none⟩ (.slice eA7 el7.length ec7)).setCell ⟨w3.heap.size,1,none⟩ (.slice nA7 nl7.length nc7)=z/\ik w z/\iP z w3.heap.size 25 #[.slice eA7 el7.length ec7,.slice nA7 nl7.length nc7]/\iP z w5.heap.size 25 #[.slice eA3 el3.length ec3,.slice nA3 nl3.length nc3]/\FJ True z ⟨⟨eA3,ec3,el3⟩,⟨nA3,nc3,nl3⟩⟩/\FJ True z ⟨⟨eA7,ec7,el7⟩,⟨nA7,nc7,nl7⟩⟩:=
  ⟨_,rfl,pQ (h:=pQ (h:=aw7) (k:=⟨h38⟩) _ _) (k:=⟨h38⟩) _ _,(B8'.jx 0 _).jx 1 _,(B11'.qU (p:=⟨w3.heap.size,0,none⟩) (by show w5.heap.size≠w3.heap.size;omega) _).qU (p:=⟨w3.heap.size,1,none⟩) (by show w5.heap.size≠w3.heap.size;omega) _,
   (((hro.below (jK a57).below).below (j' hlt4 _ _ _).below).below (j' hlt4 _ _ _).below).sub (vk _ _),
   ((hr7.below (j' hlt6 _ _ _).below).below (j' hlt6 _ _ _).below).sub (vk _ _)⟩
 have HQ8:=iy (fun U (hU:ik W8 U)=>Dy hp3.enums hp7.enums hp3.nodes hp7.nodes U hU);simp only[hsame]at HQ8;have d0:=C8.cell 0;have d1:=C8.cell 1;have d2:=C11.cell 0;have d3:=C11.cell 1;have m8:Le (w3.heap.size+1) W8:=⟨C8.lt⟩;have m11:Le (w5.heap.size+1) W8:=⟨C11.lt⟩;have hbI:¬((65536:Int)<(T3.size:Int)):=iu;unfold Gt;simp only[];have HW8:=iB hW8;clear g1 g2 q1 q2 hgd7 hr7 hp3 hp7 hW8 hsame;go_upto_region 13 with fail
 rw[HW8.out];go_wp2_with fail;refine (HQ8 _ inferInstance).mono ?_;rintro e w9 ⟨rfl,a9⟩;go_wp2_with fail;go_ret;exact⟨rfl,BE (ij aW8 a9)⟩
end
end Go.Proofs.YtnigblndonocfaaGreatDoor
