/- A part of the proof. -/
import Derived.Test.YtnigblndonocfaaGreatDoorSTail
set_option linter.unusedVariables false
set_option linter.unusedSimpArgs false
namespace Go.Proofs.YtnigblndonocfaaGreatDoor
set_option maxRecDepth 100000
set_option maxHeartbeats 6400000
open Go.Proofs.Tryz
open Go.RowKit Go.BigFrame
section
theorem ui {α:Type} (f:α->List Pc) {l:List α} {j:Nat} {x:α} (h:l[j]?=some x):iY ((l.take (j+1)).flatMap f)=iY ((l.take j).flatMap f)++iY (f x):=by
 obtain⟨o,I⟩:=rq.1 h;rw[IX o,I,Fa,iC];simp
theorem AK {α:Type} (f:α->List Pc) (l:List α) (j:Nat):(iY ((l.take j).flatMap f)).length<=(iY (l.flatMap f)).length:=by
 have h:l.flatMap f=(l.take j).flatMap f++(l.drop j).flatMap f:=by rw[<- Fa,Gv]
 rw[h,iC,mo];omega
def Aj (b:Bool):Pc:=if b then mB [99,111,110,116,105,110,117,101] else mB [116,104,101,110]
def On (el:List iW) (k:Nat) (wd:List UInt8) (nms:List ByteArray) (t:ma):List Pc:=
 rL k (mB wd::.sp 32::(kX el t.cond.er++.sp 32::Aj t.res::.sp 32::rM (nms.getD t.dst.toNat ⟨#[]⟩)::[mf [59]]))
def sk (el:List iW) (k:Nat) (wd:List UInt8) (nms:List ByteArray) (l:List ma):List Pc:=l.flatMap (On el k wd nms)
section
variable {B:World} {g:Nat} {eA:Option Addr} {ec mb:Nat} {el:List iW}
theorem Es (hB:WB B eA ec el mb) {A:Option Addr} {c:Nat} {tl:List ma} (hR:ir 8 (Eo True) B ⟨A,c,tl⟩) {sA:Option Addr} {sc:Nat} {sts:List StT} (hSt:ir 6 (OZ True) B ⟨sA,sc,sts⟩)
  (hE:∀t∈tl,qk el t.cond=0/\0<=t.dst/\t.dst<(sts.length:Int)) (hn:∀x∈sts,x.name.size<=40) (wd:List UInt8) (hwd:wd.length<=100) (k:Nat) (hk:k<=1000) :
  tG B g eA el.length ec mb 134 [.int .i64 k,.string (lG wd),.agg #[.slice sA sts.length sc],.slice A tl.length c] (sk el k wd (sts.map StT.name) tl):=by
 intro w l h hl;show Calls prog _ #[.pointer (some ⟨g,0,none⟩),.int .i64 k,.string (lG wd),.agg #[.slice sA sts.length sc],.slice A tl.length c] w _
 have az:=hR.len;have aw:=hSt.len;simp only[]at az aw;obtain⟨TP,ad⟩:=jt (sk el k wd (sts.map StT.name) tl);have aB:=iy ad;have HH:=iy h;have HL:=iy hl;rw[ad];have aG:Le (g+1) w:=⟨h.lt⟩;clear h hl ad;go_in;go_wp2_with fail;obtain⟨W1,ab,af⟩:∃W1,W1=w.alloc (.cells #[.slice sA sts.length sc] 131)/\ik w W1:=⟨_,rfl,iR⟩;have av:Hid (iP W1 w.heap.size 131 #[.slice sA sts.length sc]):=by show iP _ _ _ _;rw[ab];exact jC _ _ _
 have aC:=iy (HH.loc af (js _) av.lt);rw[<- ab];go_loopw [15] (fun i wr=>∃j:Nat,j<=tl.length/\i=.int .i64 j/\Hid (Ln B g eA el.length ec mb wr (l++iY (sk el k wd (sts.map StT.name) (tl.take j))))/\Hid (vP g W1 wr)) (fun i _=>tl.length-(intOf i).toNat)
 case atStart=>exact⟨0,iu,rfl,by show Ln _ _ _ _ _ _ _ _;rw[rP];show Ln _ _ _ _ _ _ _ (l++[]);rw[oV];exact HH.after af,Iq _ _⟩
 case round=>
 obtain⟨j,hj,rfl,HN,HS⟩:=hrel;have aa:=aC.blk HS av;have cb:=aa.cell 0;have lb:Le (w.heap.size+1) wr:=⟨aa.lt⟩;have lg:Le (g+1) wr:=⟨HN.lt⟩;obtain⟨c0,c1⟩:=HN.cells;clear aa ab;simp only[List.getElem?_toArray,List.getElem?_cons_zero]at cb;by_cases ay:j<tl.length
 ·obtain⟨b,p,t,ar,aF,HY,R⟩:=(hR.trs wr (k:=HN.aft)).part (i:=j) ay
  simp only[]at ar;subst ar;have aA:(j:Int)<(tl.length:Int):=iu;obtain⟨al,ak,aj⟩:=hE t (om HY);obtain⟨b9,o9,ao⟩:=hR.elem HY;obtain⟨a8,I⟩:=vh (mb:=mb) hB.sh hB.sy hB.tg ao.co al;have a':=ui (l:=tl) (On el k wd (sts.map StT.name)) HY;have a1:=AK (On el k wd (sts.map StT.name)) tl (j+1);obtain⟨⟨kk,oo,tt,vv,ss,AA,cc,xs⟩,dst,a7⟩:=t;simp only[]at ak aj a8 I;obtain⟨m,rfl⟩:∃m:Nat,dst=m:=⟨dst.toNat,iu⟩;obtain⟨bs,ps,st,aq,aE,ag,an⟩:=(hSt.sts wr (k:=HN.aft)).part (i:=m) (by show m<sts.length;omega);simp only[]at aq;subst aq;have ah:=hn st (om ag);have ax:(m:Int)<(sts.length:Int):=iu;have s0:=an.1.c0;have f0:=R.six.c0;have f1:=R.six.c1;have f2:=R.six.c2;have f3:=R.six.c3;have f4:=R.six.c4;have f5:=R.six.c5;have f6:=R.c6;have f7:=R.c7;simp only[txs]at f0 f1 f2 f3 f4 f5 f6 f7;have J:(sts.map StT.name).getD m ⟨#[]⟩=st.name:=by rw[wC,JL,ag.out];rfl
  have aH:=jr st.name;obtain⟨x,o⟩:∃x,iY (kX el (Tx.mk kk oo tt vv ss AA cc xs).er)=x:=⟨_,rfl⟩;have HE:Hid (∀U,ik wr U->Calls prog 47 #[.agg #[.slice eA el.length ec,.map (some mb)],.agg #[.int .i64 kk,.int .i64 oo,.int .i64 tt,.int .i64 vv,.string ss,.slice AA xs.length cc]] U fun e w'=>e=.returned (.string (lG x))/\∃z,w'=U.more z):=iB fun U hU=>by
   have:=a8 U (ij HN.aft hU);rwa [o]at this
  rw[o]at I;have a6:Hid (l.length+(iY (sk el k wd (sts.map StT.name) (tl.take j))).length+(iY (On el k wd (sts.map StT.name) ⟨Tx.mk kk oo tt vv ss AA cc xs,(m:Int),a7⟩)).length<=140737488355328):=by
   show _<=_
   have h1:=HL.out;rw[a',mo]at a1;unfold sk at h1⊢;omega
  have au:Hid (l++iY (sk el k wd (sts.map StT.name) (tl.take (j+1)))=l++iY (sk el k wd (sts.map StT.name) (tl.take j))++iY (On el k wd (sts.map StT.name) ⟨Tx.mk kk oo tt vv ss AA cc xs,(m:Int),a7⟩)):=by
   show _=_
   unfold sk;rw[a',kD]
  clear a' a1 HY ag R an ao a8 al ak aj;have dn:=ax;cases a7 with
  |true=>
   obtain⟨S1,e1,g1⟩:=jh (A:=lG wd) (B:=⟨#[32]⟩) (b:=[32]) rfl rfl (by simp;omega);obtain⟨S2,e2,g2⟩:=jh (B:=lG x) e1 rfl (by simp;omega);obtain⟨S3,e3,g3⟩:=jh (B:=⟨#[32,99,111,110,116,105,110,117,101,32]⟩) (b:=[32,99,111,110,116,105,110,117,101,32]) e2 rfl (by simp;omega);obtain⟨S4,e4,g4⟩:=jh (B:=st.name) e3 (qd st.name).symm (by simp;omega);obtain⟨S5,e5,g5⟩:=jh (B:=⟨#[59]⟩) (b:=[59]) e4 rfl (by simp;omega);have HA:=ur HN k hk (mB wd::.sp 32::(kX el (Tx.mk kk oo tt vv ss AA cc xs).er++.sp 32::Aj true::.sp 32::rM (((sts.map StT.name).getD m ⟨#[]⟩))::[mf [59]])) (S:=S5)
    (by rw[e5,J,kH,jn,iC,o,jn,show Aj true=mB [99,111,110,116,105,110,117,101] from rfl,kH,jn,lQ,jl,ja];simp) (by rw[mo];exact a6.out)
   clear hR hSt hE hn o I e1 e2 e3 e4 e5 hB J ah;go_wp2_with fail;refine jf 23 (by kernel_rfl) (by kernel_rfl) ?_;simp only[sD,rP,uB,sS];repeat (go_big_quiet_step ((go_at_call 47;with_reducible exact mR (HE.out _ inferInstance))))
   refine wpQuiet_nil ?_;rintro _ ⟨y_,rfl⟩;go_wp2_with fail;refine (HA _ inferInstance).mono ?_;rintro e w2 ⟨rfl,ae,a_⟩;go_wp2;go_roundw
   case rel=>exact⟨j+1,by omega,by go_num,by show Ln _ _ _ _ _ _ _ _;rw[au.out];exact ae,HS.trans a_⟩
   case measure=>simp[intOf];omega
  |false=>
  obtain⟨S1,e1,g1⟩:=jh (A:=lG wd) (B:=⟨#[32]⟩) (b:=[32]) rfl rfl (by simp;omega);obtain⟨S2,e2,g2⟩:=jh (B:=lG x) e1 rfl (by simp;omega);obtain⟨S3,e3,g3⟩:=jh (B:=⟨#[32,116,104,101,110,32]⟩) (b:=[32,116,104,101,110,32]) e2 rfl (by simp;omega);obtain⟨S4,e4,g4⟩:=jh (B:=st.name) e3 (qd st.name).symm (by simp;omega);obtain⟨S5,e5,g5⟩:=jh (B:=⟨#[59]⟩) (b:=[59]) e4 rfl (by simp;omega);have HA:=ur HN k hk (mB wd::.sp 32::(kX el (Tx.mk kk oo tt vv ss AA cc xs).er++.sp 32::Aj false::.sp 32::rM (((sts.map StT.name).getD m ⟨#[]⟩))::[mf [59]])) (S:=S5)
   (by rw[e5,J,kH,jn,iC,o,jn,show Aj false=mB [116,104,101,110] from rfl,kH,jn,lQ,jl,ja];simp) (by rw[mo];exact a6.out)
  clear hR hSt hE hn o I e1 e2 e3 e4 e5 hB J ah;go_wp2_with fail;refine jf 23 kp kp ?_;simp only[sD,rP,uB,sS];repeat (go_big_quiet_step ((go_at_call 47;with_reducible exact mR (HE.out _ iR))))
  refine wpQuiet_nil ?_;rintro _ ⟨y_,rfl⟩;go_wp2_with fail;refine (HA _ iR).mono ?_;rintro e w2 ⟨rfl,ae,a_⟩;go_wp2;go_roundw
  case rel=>exact⟨j+1,iu,by go_num,by show Ln _ _ _ _ _ _ _ _;rw[au.out];exact ae,HS.trans a_⟩
  case measure=>simp[intOf];omega
 obtain rfl:j=tl.length:=iu;have aA:¬((tl.length:Int)<(tl.length:Int)):=iu;have ai:=HN.out;rw[pf,aB.out]at ai;have aD:=iy ai;go_wp2;go_end0;exact⟨rfl,aD,(D_ af (by exact HH.lt)).trans HS⟩
end
end
section
def Bo (l:List ByteArray):List Pc:=mq qR (l.map fun s=>[rM s])
def vU (l:List ByteArray):List Pc:=if 1<l.length then mf [40]::(Bo l++[mf [41]]) else Bo l
def zj (el:List iW) (k:Nat) (q:oX):List Pc:=rL k (vU q.left.l++.sp 32::mf [61]::.sp 32::(kX el q.right.er++[mf [59]]))
mutual
def CN (el:List iW) (k:Nat):AuT->List Pc
 |.mk _ _ l=>rL k [mB [97,117,116,111,109,97,116,111,110]]++wi el k (l.map StT.name) l++rL k [mB [101,110,100]]
def vN (el:List iW) (k:Nat):List AuT->List Pc
 |[]=>[]
 |a::l=>CN el k a++vN el k l
def IC (el:List iW) (k:Nat) (nms:List ByteArray):StT->List Pc
 |.mk nm lo eq _ _ au ul ut=>rL (k+1) [mB [115,116,97,116,101],.sp 32,rM nm]++(nr el (k+2) lo.l++(sk el (k+2) [117,110,108,101,115,115] nms ul.l++(rL (k+1) [mB [100,111]]++((eq.l.flatMap (zj el (k+2))++vN el (k+2) au)++(sk el (k+2) [117,110,116,105,108] nms ut.l++rL (k+1) [mB [100,111,110,101]])))))
def wi (el:List iW) (k:Nat) (nms:List ByteArray):List StT->List Pc
 |[]=>[]
 |x::l=>IC el k nms x++wi el k nms l
end
theorem J' (el:List iW) (k:Nat):∀l:List AuT,vN el k l=l.flatMap (CN el k)
 |[]=>by rw[vN];rfl
 |a::l=>by rw[vN,pZ,J' el k l]
theorem KA (el:List iW) (k:Nat) (nms:List ByteArray):∀l:List StT,wi el k nms l=l.flatMap (IC el k nms)
 |[]=>by rw[wi];rfl
 |a::l=>by rw[wi,pZ,KA el k nms l]
def qJ (el:List iW) (k:Nat) (eqs:List oX) (au:List AuT):List Pc:=eqs.flatMap (zj el k)++vN el k au
theorem Ey (l:List ByteArray):Lib.join (l.map (·.data.toList)) (iY qR)=iY (Bo l):=by
 unfold Bo;rw[wV,xZ];congr 1;exact IL fun a _=>by show _=iY [rM a];rw[lQ,ja,oV]
theorem qi.Oi {w:World} {A:Option Addr} {c:Nat} {l:List ByteArray} (h:ir 1 sR w ⟨A,c,l⟩):qi w A c l:=by
 refine⟨h.le,h.len,?_⟩;rcases h.cells with e | ⟨b,p,e,hlt,hc⟩
 ·exact .inl e
 exact .inr ⟨b,p,e,hlt,fun j s o=>by have:=(hc j s o).1;rwa [yr]at this⟩
theorem nS {s:ByteArray} (h:jA s=0):kT s=true:=nJ iI h
theorem KL {l:List ByteArray} (h:iw jA l=0) (h4:l.length<=1000):(iY (Bo l)).length<=42000:=by
 have J:(iY (Bo l)).length<=(l.map fun s=>[rM s]).length*(40+2):=za (by decide) fun x j=>by
  obtain⟨o,I,rfl⟩:=yQ.1 j;have:=jM (nS (jd h o I));rw[lQ,ja,oV,jr];omega
 rw[pE]at J;omega
theorem Fz {el:List iW} {q:oX} (h:rN el q=0):0<q.left.l.length/\q.left.l.length<=64/\iw jA q.left.l=0/\qk el q.right=0/\(q.left.l.length=1\/q.right.kind=10):=by
 unfold rN at h;obtain⟨I,h⟩:=jI h;obtain⟨o,h⟩:=jI h;obtain⟨R,h⟩:=jI h;obtain⟨J,j⟩:=jI h;have I:=nJ iI I;have o:=nJ iI o;have j:=nJ iI j;simp only[decide_eq_true_eq,uG,beq_iff_eq]at I o j;exact⟨iu,iu,R,J,j.imp (fun e=>by omega) id⟩
section
variable {B:World} {g:Nat} {eA:Option Addr} {ec mb:Nat} {el:List iW}
theorem Hu (hB:WB B eA ec el mb) {A:Option Addr} {c:Nat} {ql:List oX} (hR:ir 7 (xv True) B ⟨A,c,ql⟩) (hE:iw (rN el) ql=0) {A2:Option Addr} {c2:Nat} {al:List AuT} (hR2:ir 1 (xM True) B ⟨A2,c2,al⟩) (k:Nat) (hk:k<=1000)
  (hA:∀a∈al,tG B g eA el.length ec mb 93 [.int .i64 k,.agg #[.slice a.ad a.states.length a.cap]] (CN el k a)) :
  tG B g eA el.length ec mb 48 [.int .i64 k,.slice A ql.length c,.slice A2 al.length c2] (qJ el k ql al):=by
 intro w l h hl;show Calls prog _ #[.pointer (some ⟨g,0,none⟩),.int .i64 k,.slice A ql.length c,.slice A2 al.length c2] w _
 have av:=hR.len;have ax:=hR2.len;simp only[]at av ax;have HF:=iy (show iY (qJ el k ql al)=iY (ql.flatMap (zj el k))++iY (al.flatMap (CN el k)) from by unfold qJ;rw[iC,J']);rw[HF.out,mo]at hl;obtain⟨TP,af⟩:=jt (qJ el k ql al);have az:=iy af;have HH:=iy h;have HL:=iy hl;rw[af];clear h hl af;go_in;go_wp2_with fail;go_loopw [15] (fun i wr=>∃j:Nat,j<=ql.length/\i=.int .i64 j/\Hid (Ln B g eA el.length ec mb wr (l++iY ((ql.take j).flatMap (zj el k))))/\Hid (vP g w wr)) (fun i _=>ql.length-(intOf i).toNat)
 case atStart=>exact⟨0,iu,rfl,by show Ln _ _ _ _ _ _ _ _;rw[rP];show Ln _ _ _ _ _ _ _ (l++[]);rw[oV];exact HH,Iq _ _⟩
 case round=>
 obtain⟨j,hj,rfl,HN,HS⟩:=hrel;have lg:Le (g+1) wr:=⟨HN.lt⟩;obtain⟨c0,c1⟩:=HN.cells;by_cases au:j<ql.length
 ·obtain⟨b,p,t,a8,ak,HY,hP⟩:=(hR.eqs wr (k:=HN.aft)).part (i:=j) au
  simp only[]at a8;subst a8;have aw:(j:Int)<(ql.length:Int):=by omega
  have ai:=jd hE t (om HY);obtain⟨q1,q2,q3,q4,q5⟩:=Fz ai;obtain⟨b9,o9,ao⟩:=hR.elem HY;obtain⟨aa,a_⟩:=vh (mb:=mb) hB.sh hB.sy hB.tg ao.ri q4;have R:=ui (l:=ql) (zj el k) HY;have o:=AK (zj el k) ql (j+1);obtain⟨⟨lA,lc,ll⟩,⟨kk,oo,tt,vv,ss,AA,cc,xs⟩⟩:=t;have ab:=qi.Oi hP.lf;simp only[]at q1 q2 q3 q4 q5 aa a_ ab;have ae:=KL q3 (by omega);have f0:=hP.c0;have f1:=hP.six.c0;have f2:wr.cell? ⟨b,p+j*7+2,none⟩=_:=hP.six.c1;have f3:wr.cell? ⟨b,p+j*7+3,none⟩=_:=hP.six.c2;have f4:wr.cell? ⟨b,p+j*7+4,none⟩=_:=hP.six.c3;have f5:wr.cell? ⟨b,p+j*7+5,none⟩=_:=hP.six.c4;have f6:wr.cell? ⟨b,p+j*7+6,none⟩=_:=hP.six.c5;simp only[txs]at f0 f1 f2 f3 f4 f5 f6;obtain⟨x,J⟩:∃x,iY (kX el (Tx.mk kk oo tt vv ss AA cc xs).er)=x:=⟨_,rfl⟩;have HE:Hid (∀U,ik wr U->Calls prog 47 #[.agg #[.slice eA el.length ec,.map (some mb)],.agg #[.int .i64 kk,.int .i64 oo,.int .i64 tt,.int .i64 vv,.string ss,.slice AA xs.length cc]] U fun e w'=>e=.returned (.string (lG x))/\∃z,w'=U.more z):=iB fun U hU=>by
   have:=aa U (ij HN.aft hU);rwa [J]at this
  rw[J]at a_;have I:Hid (l.length+(iY ((ql.take j).flatMap (zj el k))).length+(iY (zj el k ⟨⟨lA,lc,ll⟩,Tx.mk kk oo tt vv ss AA cc xs⟩)).length<=140737488355328):=by
   show _<=_
   have h1:=HL.out;rw[R,mo]at o;omega
  have aq:Hid (l++iY ((ql.take (j+1)).flatMap (zj el k))=l++iY ((ql.take j).flatMap (zj el k))++iY (zj el k ⟨⟨lA,lc,ll⟩,Tx.mk kk oo tt vv ss AA cc xs⟩)):=by
   show _=_
   rw[R,kD]
  obtain⟨z,hz⟩:∃z,iY (Bo ll)=z:=⟨_,rfl⟩;have HJ:=iB (fun U (hU:ik wr U)=>ab.join (w:=wr) ⟨#[44,32]⟩ (by rw[show ((⟨#[44,32]⟩:ByteArray).data.toList)=iY qR from rfl,Ey];omega) U hU);rw[show ((⟨#[44,32]⟩:ByteArray).data.toList)=iY qR from rfl,Ey,hz]at HJ;rw[hz]at ae;clear R o HY hP ao aa q3 q4 q5 ai ab;by_cases h1:1<ll.length
  ·obtain⟨S1,e1,g1⟩:=jh (A:=⟨#[40]⟩) (a:=[40]) (B:=lG z) rfl rfl (by simp;omega)
   obtain⟨S2,e2,g2⟩:=jh (B:=⟨#[41]⟩) (b:=[41]) e1 rfl (by simp;omega);obtain⟨S3,e3,g3⟩:=jh (B:=⟨#[32,61,32]⟩) (b:=[32,61,32]) e2 rfl (by simp;omega);obtain⟨S4,e4,g4⟩:=jh (B:=lG x) e3 rfl (by simp;omega);obtain⟨S5,e5,g5⟩:=jh (B:=⟨#[59]⟩) (b:=[59]) e4 rfl (by simp;omega);have HA:=ur HN k hk (vU ll++.sp 32::mf [61]::.sp 32::(kX el (Tx.mk kk oo tt vv ss AA cc xs).er++[mf [59]])) (S:=S5)
    (by rw[e5];unfold vU;rw[iG h1,iC,jl,iC,hz,jl,jn,jl,jn,iC,J,jl,ja];simp) (by rw[mo];exact I)
   generalize ll.length=n9 at *
   have ay:(1:Int)<(n9:Int):=by omega
   clear hR hR2 hE hA J a_ hz ae e1 e2 e3 e4 e5 hB q1 q2;go_wp2_with fail;refine (HJ.out _ inferInstance).mono ?_;rintro e w' ⟨rfl,y,rfl⟩;go_wp2_with fail;refine jf 13 (by kernel_rfl) (by kernel_rfl) ?_;simp only[sD,rP,uB,sS];repeat (go_big_quiet_step ((go_at_call 47;with_reducible exact mR (HE.out _ inferInstance))))
   refine wpQuiet_nil ?_;rintro _ ⟨y_,rfl⟩;go_wp2_with fail;refine (HA _ inferInstance).mono ?_;rintro e w2 ⟨rfl,a7,a1⟩;go_wp2;go_roundw
   case rel=>exact⟨j+1,by omega,by go_num,by show Ln _ _ _ _ _ _ _ _;rw[aq.out];exact a7,HS.trans a1⟩
   case measure=>simp[intOf];omega
  obtain⟨S3,e3,g3⟩:=jh (A:=lG z) (B:=⟨#[32,61,32]⟩) (b:=[32,61,32]) rfl rfl (by simp;omega);obtain⟨S4,e4,g4⟩:=jh (B:=lG x) e3 rfl (by simp;omega);obtain⟨S5,e5,g5⟩:=jh (B:=⟨#[59]⟩) (b:=[59]) e4 rfl (by simp;omega);have HA:=ur HN k hk (vU ll++.sp 32::mf [61]::.sp 32::(kX el (Tx.mk kk oo tt vv ss AA cc xs).er++[mf [59]])) (S:=S5)
   (by rw[e5];unfold vU;rw[iV h1,iC,hz,jn,jl,jn,iC,J,jl,ja];simp) (by rw[mo];exact I)
  generalize ll.length=n9 at *
  have ay:¬((1:Int)<(n9:Int)):=by omega
  clear hR hR2 hE hA J a_ hz ae e3 e4 e5 hB q1 q2;go_wp2_with fail;refine (HJ.out _ inferInstance).mono ?_;rintro e w' ⟨rfl,y,rfl⟩;go_wp2_with fail;refine jf 13 (by kernel_rfl) (by kernel_rfl) ?_;simp only[sD,rP,uB,sS];repeat (go_big_quiet_step ((go_at_call 47;with_reducible exact mR (HE.out _ inferInstance))))
  refine wpQuiet_nil ?_;rintro _ ⟨y_,rfl⟩;go_wp2_with fail;refine (HA _ iR).mono ?_;rintro e w2 ⟨rfl,a7,a1⟩;go_wp2;go_roundw
  case rel=>exact⟨j+1,iu,by go_num,by show Ln _ _ _ _ _ _ _ _;rw[aq.out];exact a7,HS.trans a1⟩
  case measure=>simp[intOf];omega
 obtain rfl:j=ql.length:=iu;have aw:¬((ql.length:Int)<(ql.length:Int)):=iu;have a6:=HN.out;rw[pf]at a6;have ag:=iy a6;generalize ql.length=n9 at *
 go_wp2_with fail;go_loopw [46] (fun i wq=>∃j:Nat,j<=al.length/\i=.int .i64 j/\Hid (Ln B g eA el.length ec mb wq ((l++iY (ql.flatMap (zj el k)))++iY ((al.take j).flatMap (CN el k))))/\Hid (vP g w wq)) (fun i _=>al.length-(intOf i).toNat)
 case atStart=>exact⟨0,iu,rfl,by show Ln _ _ _ _ _ _ _ _;rw[rP];show Ln _ _ _ _ _ _ _ (_++[]);rw[oV];exact ag,HS⟩
 case round=>
 obtain⟨j,aA,rfl,a',ar⟩:=hrel;by_cases aj:j<al.length
 ·obtain⟨b,p,t,a8,ak,HY,hP⟩:=(hR2.Ru wr (k:=a'.aft)).part (i:=j) aj
  simp only[]at a8;subst a8;have an:(j:Int)<(al.length:Int):=iu;have f0:=hP.1;have R:=ui (l:=al) (CN el k) HY;have o:=AK (CN el k) al (j+1);have ah:=hA t (om HY);obtain⟨tA,tc,ts⟩:=t;simp only[AuT.ad,AuT.states,AuT.cap,yr]at f0 ah;have I:l.length+(iY (ql.flatMap (zj el k))).length+(iY ((al.take j).flatMap (CN el k))).length+(iY (CN el k (.mk tA tc ts))).length<=140737488355328:=by
   have h1:=HL.out;rw[R,mo]at o;omega
  have HC:Hid (∀U,ik wr U->Calls prog 93 #[.pointer (some ⟨g,0,none⟩),.int .i64 k,.agg #[.slice tA ts.length tc]] U fun e w'=>e=.returned (.tuple #[])/\Ln B g eA el.length ec mb w' ((l++iY (ql.flatMap (zj el k)))++iY ((al.take (j+1)).flatMap (CN el k)))/\vP g wr w'):=iy fun U hU=>by
   refine (ah U _ (a'.after hU) (by rw[mo,mo];exact I)).mono ?_;rintro e w' ⟨h1,h2,h3⟩;exact⟨h1,by rw[R,<- kD];exact h2,(D_ hU a'.lt).trans h3⟩
  go_wp2_with fail;refine (HC _ iR).mono ?_;rintro e w2 ⟨rfl,a7,a1⟩;go_wp2;go_roundw
  case rel=>exact⟨j+1,iu,by go_num,a7,ar.trans a1⟩
  case measure=>simp[intOf];omega
 obtain rfl:j=al.length:=iu;have an:¬((al.length:Int)<(al.length:Int)):=iu;have a6:=a'.out;rw[pf,kD,<- HF.out,az.out]at a6;have ag:=iy a6;go_wp2;go_end0;exact⟨rfl,ag,ar⟩
end
end
section
structure QD (el:List iW) (n:Nat) (x:StT):Prop where
 nm:x.name.size<=40
 lo:nN el false x.locals.l=0
 ll:x.locals.l.length<=1000
 ul:∀t∈x.unl.l,qk el t.cond=0/\0<=t.dst/\t.dst<(n:Int)
 ut:∀t∈x.unt.l,qk el t.cond=0/\0<=t.dst/\t.dst<(n:Int)
section
variable {B:World} {g:Nat} {eA:Option Addr} {ec mb:Nat} {el:List iW}
theorem MU (hB:WB B eA ec el mb) {A:Option Addr} {c:Nat} {sts:List StT} (hR:ir 6 (OZ True) B ⟨A,c,sts⟩) (k:Nat) (hk:k<=900) (hE:∀x∈sts,QD el sts.length x)
  (hBd:∀x∈sts,tG B g eA el.length ec mb 48 [.int .i64 ((k+2:Nat):Int),.slice x.eqs.A x.eqs.l.length x.eqs.c,.slice x.ad x.autos.length x.cap] (qJ el (k+2) x.eqs.l x.autos)) :
  tG B g eA el.length ec mb 93 [.int .i64 k,.agg #[.slice A sts.length c]] (CN el k (.mk A c sts)):=by
 intro w l h hl;show Calls prog _ #[.pointer (some ⟨g,0,none⟩),.int .i64 k,.agg #[.slice A sts.length c]] w _
 have bf:=hR.len;simp only[]at bf;obtain⟨nms,af⟩:∃nms,sts.map StT.name=nms:=⟨_,rfl⟩;have bm:=iy af;have hF:iY (CN el k (.mk A c sts))=iY (rL k [mB [97,117,116,111,109,97,116,111,110]])++iY (sts.flatMap (IC el k nms))++iY (rL k [mB [101,110,100]]):=by
  rw[CN,iC,iC,KA,af]
 have HF:=iy hF;rw[hF,mo,mo]at hl;obtain⟨TP,aE⟩:=jt (CN el k (.mk A c sts));have bk:=iy aE;have HH:=iy h;have HL:=iy hl;rw[aE];clear hl aE hF af;have bb:Hid (∀U,ik w U->Calls prog 17 #[.pointer (some ⟨g,0,none⟩),.int .i64 k,.string ⟨#[97,117,116,111,109,97,116,111,110]⟩] U fun e w'=>e=.returned (.tuple #[])/\Ln B g eA el.length ec mb w' (l++iY (rL k [mB [97,117,116,111,109,97,116,111,110]]))/\vP g U w'):=
  iy fun U hU=>rE U l k [mB [97,117,116,111,109,97,116,111,110]] (h.after hU) iu (by have:=HL.out;omega)
 obtain⟨k1,aU⟩:=jt (k+1);obtain⟨k2,aC⟩:=jt (k+2);have bs:IntKind.i64.wrap ((k:Int)+1)=(k1:Int):=(IntWalk.i64_in ((k:Int)+1) (by omega)).trans (by omega);have br:IntKind.i64.wrap ((k:Int)+2)=(k2:Int):=(IntWalk.i64_in ((k:Int)+2) (by omega)).trans (by omega);have ai:k1<=1000:=iu;have ah:k2<=1000:=iu;have bp:=iy aU;have bo:=iy aC;rw[aC]at hBd;clear h aU aC;go_in;go_wp2_with fail;refine (bb _ iR).mono ?_;rintro e w1 ⟨rfl,aW,ak⟩;have aF:ik w (w.alloc (.cells #[.slice A sts.length c] 131)):=iR;have a':=HH.loc aF (js _) (jC w 131 #[.slice A sts.length c]).lt;have b6:=iy (a'.Dh ak);have aT:=iB (a'.blk ak (jC w 131 #[.slice A sts.length c]));have bl:=iB ((D_ aF HH.lt).trans ak);have aw:=iB aW;have cb:=aT.cell 0;have lb:Le (w.heap.size+1) w1:=⟨aT.lt⟩;clear aW ak a' aF bb;go_wp2_with fail;clear cb lb;go_loopw [14] (fun i wr=>∃j:Nat,j<=sts.length/\i=.int .i64 j/\Hid (Ln B g eA el.length ec mb wr ((l++iY (rL k [mB [97,117,116,111,109,97,116,111,110]]))++iY ((sts.take j).flatMap (IC el k nms))))/\Hid (vP g w1 wr)) (fun i _=>sts.length-(intOf i).toNat)
 case atStart=>exact⟨0,iu,rfl,by show Ln _ _ _ _ _ _ _ _;rw[rP];show Ln _ _ _ _ _ _ _ (_++[]);rw[oV];exact aw,Iq _ _⟩
 case round=>
 obtain⟨j,hj,rfl,HN,HS⟩:=hrel;have ay:=iy (b6.blk HS aT);have b5:=iy (b6.Dh HS);have lb:Le (w.heap.size+1) wr:=⟨ay.lt⟩;by_cases be:j<sts.length
 ·obtain⟨b,p,t,aX,bq,HY,hP⟩:=(hR.sts wr (k:=HN.aft)).part (i:=j) be
  simp only[]at aX;subst aX;have bg:(j:Int)<(sts.length:Int):=iu;obtain⟨b9,o9,aV⟩:=hR.elem HY;have ho:=hE t (om HY);have aD:=hBd t (om HY);have I:=ui (l:=sts) (IC el k nms) HY;have aj:=AK (IC el k nms) sts (j+1);obtain⟨sn,⟨lA,lc,ll⟩,⟨qA,qc,ql⟩,aA,ac,al,⟨uA,uc,ul⟩,⟨vA,vc,vl⟩⟩:=t;obtain⟨-,r1,r2,r3,r4,r5⟩:=aV.2.parts;obtain⟨f0,f1,f2,f3,f4,f5⟩:=hP.1;simp only[StT.name,StT.locals,StT.eqs,StT.ad,StT.cap,StT.autos,StT.unl,StT.unt]at f0 f1 f2 f3 f4 f5 aD;have o1:=ho.nm;have o2:=ho.lo;have o3:=ho.ll;have o4:=ho.ul;have o5:=ho.ut;simp only[StT.name,StT.locals,StT.unl,StT.unt]at o1 o2 o3 o4 o5;have az:∀x∈sts,x.name.size<=40:=fun x hx=>(hE x hx).nm
  rw[IC,bp.out,bo.out]at I;simp only[iC]at I;have bc:=jr sn;obtain⟨S1,e1,g1⟩:=jh (A:=⟨#[115,116,97,116,101,32]⟩) (a:=[115,116,97,116,101,32]) (B:=sn) rfl (qd sn).symm (by simp;omega);have W1:Hid (∀(w:World) (l:List UInt8),Ln B g eA el.length ec mb w l->l.length+(iY (rL k1 [mB [115,116,97,116,101],.sp 32,rM sn])).length<=140737488355328->Calls prog 17 #[.pointer (some ⟨g,0,none⟩),.int .i64 k1,.string S1] w fun e w'=>e=.returned (.tuple #[])/\Ln B g eA el.length ec mb w' (l++iY (rL k1 [mB [115,116,97,116,101],.sp 32,rM sn]))/\vP g w w'):=iB fun w l h hl=>by
   have:=rE w l k1 [mB [115,116,97,116,101],.sp 32,rM sn] h ai hl;rwa [show lG (iY [mB [115,116,97,116,101],.sp 32,rM sn])=S1 from by rw[e1,kH,jn,lQ,ja,oV];rfl]at this
  have W2:=iy (BP (g:=g) hB r1 o2 o3 k2 ah);have W3:=iB (Es (g:=g) hB r3 hR o4 az [117,110,108,101,115,115] (by decide) k2 ah);have W4:Hid (∀(w:World) (l:List UInt8),Ln B g eA el.length ec mb w l->l.length+(iY (rL k1 [mB [100,111]])).length<=140737488355328->Calls prog 17 #[.pointer (some ⟨g,0,none⟩),.int .i64 k1,.string ⟨#[100,111]⟩] w fun e w'=>e=.returned (.tuple #[])/\Ln B g eA el.length ec mb w' (l++iY (rL k1 [mB [100,111]]))/\vP g w w'):=iB fun w l h hl=>rE w l k1 [mB [100,111]] h ai hl
  have W5:=iB aD;have W6:=iB (Es (g:=g) hB r4 hR o5 az [117,110,116,105,108] (by decide) k2 ah);have W7:Hid (∀(w:World) (l:List UInt8),Ln B g eA el.length ec mb w l->l.length+(iY (rL k1 [mB [100,111,110,101]])).length<=140737488355328->Calls prog 17 #[.pointer (some ⟨g,0,none⟩),.int .i64 k1,.string ⟨#[100,111,110,101]⟩] w fun e w'=>e=.returned (.tuple #[])/\Ln B g eA el.length ec mb w' (l++iY (rL k1 [mB [100,111,110,101]]))/\vP g w w'):=iB fun w l h hl=>rE w l k1 [mB [100,111,110,101]] h ai hl
  rw[bm.out]at W3 W6;unfold tG at W2 W3 W5 W6;unfold qJ at W5;rw[iC]at W5;generalize iY (rL k1 [mB [115,116,97,116,101],.sp 32,rM sn])=R1 at W1 I;generalize iY (nr el k2 ll)=R2 at W2 I;generalize iY (sk el k2 [117,110,108,101,115,115] nms ul)=R3 at W3 I;generalize iY (rL k1 [mB [100,111]])=R4 at W4 I;generalize iY (ql.flatMap (zj el k2))++iY (vN el k2 al)=R5 at W5 I;generalize iY (sk el k2 [117,110,116,105,108] nms vl)=R6 at W6 I;generalize iY (rL k1 [mB [100,111,110,101]])=R7 at W7 I;have ae:(l++iY (rL k [mB [97,117,116,111,109,97,116,111,110]])).length+(iY ((sts.take j).flatMap (IC el k nms))).length+(R1.length+(R2.length+(R3.length+(R4.length+(R5.length+(R6.length+R7.length))))))<=140737488355328:=by
   have h1:=HL.out;rw[I]at aj;simp only[mo]at aj⊢;omega
  have aG:Hid ((l++iY (rL k [mB [97,117,116,111,109,97,116,111,110]]))++iY ((sts.take (j+1)).flatMap (IC el k nms))=(((((((((l++iY (rL k [mB [97,117,116,111,109,97,116,111,110]]))++iY ((sts.take j).flatMap (IC el k nms)))++R1)++R2)++R3)++R4)++R5)++R6)++R7)):=by
   show _=_
   rw[I];simp only[kD]
  generalize l++iY (rL k [mB [97,117,116,111,109,97,116,111,110]])=l0 at HN ae aG;generalize iY ((sts.take j).flatMap (IC el k nms))=lj at HN ae aG;have aa:=iB ae;clear I aj ae HY hP aV ho aD hR hE hBd r1 r2 r3 r4 r5 o1 o2 o3 o4 o5 az e1 hB bc;go_wp2_with fail;refine (W1.out _ _ (HN.out.after inferInstance) (by have:=aa.out;simp only[mo];omega)).mono ?_;rintro e v1 ⟨rfl,J,o⟩;have ax:ik wr (wr.alloc (.cells #[.string sn,.slice lA ll.length lc,.slice qA ql.length qc,.slice aA al.length ac,.slice uA ul.length uc,.slice vA vl.length vc] 184)):=iR;have a':=HN.loc ax (js _) (jC wr 184 #[.string sn,.slice lA ll.length lc,.slice qA ql.length qc,.slice aA al.length ac,.slice uA ul.length uc,.slice vA vl.length vc]).lt;have aS:=iy (a'.Dh o);have a_:=iy (a'.blk o (jC wr 184 #[.string sn,.slice lA ll.length lc,.slice qA ql.length qc,.slice aA al.length ac,.slice uA ul.length uc,.slice vA vl.length vc]));have ag:=b5.Dh (D_ ax HN.lt);have aM:=iy (ag.Dh o);have av:=iy (ag.blk o (ay.alloc _));have b3:=iy ((D_ ax HN.lt).trans o);clear a' ag ax;have aw:=iy J;have x0:=a_.cell 0;have x1:=a_.cell 1;have x2:=a_.cell 2;have x3:=a_.cell 3;have x4:=a_.cell 4;have x5:=a_.cell 5;have y0:=av.cell 0;have lx:Le (wr.heap.size+1) v1:=⟨a_.lt⟩;have ly:Le (w.heap.size+1) v1:=⟨av.lt⟩;clear J o;go_wp2_with fail;refine (W2 v1 _ aw (by have:=aa.out;simp only[mo];omega)).mono ?_;rintro e v2 ⟨rfl,J,o⟩;have aR:=iy (aS.Dh o);have a8:=iy (aS.blk o a_);have aL:=iy (aM.Dh o)
  have au:=iy (aM.blk o av);have b2:=iy (b3.trans o);clear aS a_ aM av b3 aw x0 x1 x2 x3 x4 x5 lx ly y0;have ba:=iy J;have x0:=a8.cell 0;have x1:=a8.cell 1;have x2:=a8.cell 2;have x3:=a8.cell 3;have x4:=a8.cell 4;have x5:=a8.cell 5;have y0:=au.cell 0;have lx:Le (wr.heap.size+1) v2:=⟨a8.lt⟩;have ly:Le (w.heap.size+1) v2:=⟨au.lt⟩;clear J o;go_wp2_with fail;refine (W3 v2 _ ba (by have:=aa.out;simp only[mo];omega)).mono ?_;rintro e v3 ⟨rfl,J,o⟩;have aQ:=iy (aR.Dh o);have a7:=iy (aR.blk o a8);have aK:=iy (aL.Dh o);have ar:=iy (aL.blk o au);have b1:=iy (b2.trans o);clear aR a8 aL au b2 ba x0 x1 x2 x3 x4 x5 lx ly y0;have b':=iy J;have x0:=a7.cell 0;have x1:=a7.cell 1;have x2:=a7.cell 2;have x3:=a7.cell 3;have x4:=a7.cell 4;have x5:=a7.cell 5;have y0:=ar.cell 0;have lx:Le (wr.heap.size+1) v3:=⟨a7.lt⟩;have ly:Le (w.heap.size+1) v3:=⟨ar.lt⟩;clear J o;go_wp2_with fail;refine (W4 v3 _ b' (by have:=aa.out;simp only[mo];omega)).mono ?_;rintro e v4 ⟨rfl,J,o⟩;have aP:=iy (aQ.Dh o);have a6:=iy (aQ.blk o a7);have aJ:=iy (aK.Dh o);have aq:=iy (aK.blk o ar);have b0:=iy (b1.trans o);clear aQ a7 aK ar b1 b' x0 x1 x2 x3 x4 x5 lx ly y0;have b_:=iy J;have x0:=a6.cell 0;have x1:=a6.cell 1;have x2:v4.cell? ⟨wr.heap.size,2,none⟩=some (.slice qA ql.length qc):=a6.cell 2;have x3:v4.cell? ⟨wr.heap.size,3,none⟩=some (.slice aA al.length ac):=a6.cell 3;have x4:v4.cell? ⟨wr.heap.size,4,none⟩=some (.slice uA ul.length uc):=a6.cell 4;have x5:v4.cell? ⟨wr.heap.size,5,none⟩=some (.slice vA vl.length vc):=a6.cell 5
  have y0:v4.cell? ⟨w.heap.size,0,none⟩=some (.slice (some ⟨b,p,none⟩) sts.length c):=aq.cell 0;have lx:Le (wr.heap.size+1) v4:=⟨a6.lt⟩;have ly:Le (w.heap.size+1) v4:=⟨aq.lt⟩;clear J o;go_wp2_with fail;refine (W5 v4 _ b_ (by have:=aa.out;simp only[mo];omega)).mono ?_;rintro e v5 ⟨rfl,J,o⟩;have aO:=iy (aP.Dh o);have a1:=iy (aP.blk o a6);have aI:=iy (aJ.Dh o);have ao:=iy (aJ.blk o aq);have aZ:=iy (b0.trans o);clear aP a6 aJ aq b0 b_ x0 x1 x2 x3 x4 x5 lx ly y0;have b8:=iy J;have x0:v5.cell? ⟨wr.heap.size,0,none⟩=some (.string sn):=a1.cell 0;have x1:v5.cell? ⟨wr.heap.size,1,none⟩=some (.slice lA ll.length lc):=a1.cell 1;have x2:v5.cell? ⟨wr.heap.size,2,none⟩=some (.slice qA ql.length qc):=a1.cell 2;have x3:v5.cell? ⟨wr.heap.size,3,none⟩=some (.slice aA al.length ac):=a1.cell 3;have x4:v5.cell? ⟨wr.heap.size,4,none⟩=some (.slice uA ul.length uc):=a1.cell 4;have x5:v5.cell? ⟨wr.heap.size,5,none⟩=some (.slice vA vl.length vc):=a1.cell 5;have y0:v5.cell? ⟨w.heap.size,0,none⟩=some (.slice (some ⟨b,p,none⟩) sts.length c):=ao.cell 0;have lx:Le (wr.heap.size+1) v5:=⟨a1.lt⟩;have ly:Le (w.heap.size+1) v5:=⟨ao.lt⟩;clear J o;go_wp2_with fail;refine (W6 v5 _ b8 (by have:=aa.out;simp only[mo];omega)).mono ?_;rintro e v6 ⟨rfl,J,o⟩;have aN:=iy (aO.Dh o);have R:=iy (aO.blk o a1);have aH:=iy (aI.Dh o);have an:=iy (aI.blk o ao);have aY:=iy (aZ.trans o);clear aO a1 aI ao aZ b8 x0 x1 x2 x3 x4 x5 lx ly y0;have b7:=iy J;have x0:v6.cell? ⟨wr.heap.size,0,none⟩=some (.string sn):=R.cell 0
  have x1:v6.cell? ⟨wr.heap.size,1,none⟩=some (.slice lA ll.length lc):=R.cell 1;have x2:v6.cell? ⟨wr.heap.size,2,none⟩=some (.slice qA ql.length qc):=R.cell 2;have x3:v6.cell? ⟨wr.heap.size,3,none⟩=some (.slice aA al.length ac):=R.cell 3;have x4:v6.cell? ⟨wr.heap.size,4,none⟩=some (.slice uA ul.length uc):=R.cell 4;have x5:v6.cell? ⟨wr.heap.size,5,none⟩=some (.slice vA vl.length vc):=R.cell 5;have y0:v6.cell? ⟨w.heap.size,0,none⟩=some (.slice (some ⟨b,p,none⟩) sts.length c):=an.cell 0;have lx:Le (wr.heap.size+1) v6:=⟨R.lt⟩;have ly:Le (w.heap.size+1) v6:=⟨an.lt⟩;clear J o;go_wp2_with fail;refine (W7 v6 _ b7 (by have:=aa.out;simp only[mo];omega)).mono ?_;rintro e v7 ⟨rfl,J,o⟩;have bu:=iy (aN.Dh o);have ab:=iy (aN.blk o R);have bt:=iy (aH.Dh o);have b4:=iy (aH.blk o an);have bj:=iy (aY.trans o);clear aN R aH an aY b7 x0 x1 x2 x3 x4 x5 lx ly y0;have bn:=iy J;have x0:=ab.cell 0;have x1:=ab.cell 1;have x2:=ab.cell 2;have x3:=ab.cell 3;have x4:=ab.cell 4;have x5:=ab.cell 5;have y0:=b4.cell 0;have lx:Le (wr.heap.size+1) v7:=⟨ab.lt⟩;have ly:Le (w.heap.size+1) v7:=⟨b4.lt⟩;clear J o;go_wp2;go_roundw
  case rel=>exact⟨j+1,iu,by go_num,by show Ln _ _ _ _ _ _ _ _;rw[aG.out];exact bn,HS.trans bj⟩
  case measure=>simp[intOf];omega
 obtain rfl:j=sts.length:=iu;have bg:¬((sts.length:Int)<(sts.length:Int)):=by omega
 have aB:=HN.out;rw[pf]at aB;have HC:Hid (∀U,ik wr U->Calls prog 17 #[.pointer (some ⟨g,0,none⟩),.int .i64 k,.string ⟨#[101,110,100]⟩] U fun e w'=>e=.returned (.tuple #[])/\Ln B g eA el.length ec mb w' (l++iY TP)/\vP g U w'):=iy fun U hU=>by
  have:=rE U _ k [mB [101,110,100]] (aB.after hU) iu (by have:=HL.out;simp only[mo];omega);rwa [kD,kD,<- kD (iY (rL k _)),<- HF.out,bk.out]at this
 clear aB HN hR hE hBd;generalize sts.length=n9 at *
 go_wp2_with fail;refine (HC _ iR).mono ?_;rintro e w2 ⟨rfl,bh,bd⟩;go_wp2;go_end0;exact⟨rfl,bh,bl.trans (HS.trans bd)⟩
end
end
section
theorem Af {el:List iW} {n:Nat} {b:Bool} {t:ma} (h:tx el n b t=0):qk el t.cond=0/\0<=t.dst/\t.dst<(n:Int):=by
 unfold tx at h;obtain⟨j,h⟩:=jI h;obtain⟨o,I⟩:=jI h;have j:=nJ iI j;simp only[mT,decide_eq_true_eq]at j;exact⟨o,j.1,j.2⟩
theorem wP {el:List iW} {n d:Nat} {x:StT} (h:AM el n d x=0):QD el n x/\kT x.name=true/\iw (rN el) x.eqs.l=0/\iw (rK el (d+1)) x.autos=0/\x.eqs.l.length<=256/\x.autos.length<=8:=by
 obtain⟨nm,J,eq,A,c,au,ul,ut⟩:=x;rw[IY]at h;obtain⟨I,h⟩:=jI h;obtain⟨o,h⟩:=jI h;obtain⟨h3,h⟩:=jI h;obtain⟨h4,h⟩:=jI h;obtain⟨h5,h⟩:=jI h;obtain⟨h6,U⟩:=jI h;have o:=nJ iI o;simp only[mT,decide_eq_true_eq]at o;have R:=jM (nS I);exact⟨⟨R.2,h3,by show J.l.length<=1000;omega,fun t j=>Af (jd h6 t j),fun t j=>Af (jd (jI U).1 t j)⟩,nS I,h4,h5,by show eq.l.length<=256;omega,by show au.length<=8;omega⟩
section
variable {B:World} {g:Nat} {eA:Option Addr} {ec mb:Nat} {el:List iW}
theorem Qg (hB:WB B eA ec el mb):∀(n d:Nat),d+n=3->∀a:AuT,zS True B a->rK el d a=0->∀k:Nat,k<=100+4*d ->
  tG B g eA el.length ec mb 93 [.int .i64 k,.agg #[.slice a.ad a.states.length a.cap]] (CN el k a)
 |0,d,hd,.mk A c l,hR,hE,k,hk=>by
  rw[yt]at hE;have h1:=nJ iI (jI hE).1;simp only[decide_eq_true_eq]at h1;omega
 |n+1,d,hd,.mk A c l,hR,hE,k,hk=>by
  rw[yt]at hE;obtain⟨h1,h⟩:=jI hE;obtain⟨h2,h⟩:=jI h;obtain⟨h3,h4⟩:=jI h;have hrow:=hR.rows;refine MU hB hrow k iu (fun x hx=>(wP (jd h4 x hx)).1) fun x hx=>?_
  obtain⟨-,q1,q2,q3,q4,q5⟩:=wP (jd h4 x hx);obtain⟨i,hi⟩:=List.getElem?_of_mem hx;obtain⟨b,o,hP⟩:=hrow.elem hi;obtain⟨nm,lo,⟨qA,qc,ql⟩,A',c',au,ul,ut⟩:=x;obtain⟨-,r1,r2,r3,r4,r5⟩:=hP.2.parts;refine Hu hB r2 q2 r5 (k+2) iu fun a ha=>?_
  obtain⟨i2,hi2⟩:=List.getElem?_of_mem ha;obtain⟨b2,o2,hP2⟩:=r5.elem hi2;exact Qg hB n (d+1) iu a hP2.2 (jd q3 a ha) (k+2) iu
theorem LC (hB:WB B eA ec el mb) {A:Option Addr} {c:Nat} {ql:List oX} (hR:ir 7 (xv True) B ⟨A,c,ql⟩) (hE:iw (rN el) ql=0) {A2:Option Addr} {c2:Nat} {al:List AuT} (hR2:ir 1 (xM True) B ⟨A2,c2,al⟩) (hE2:iw (rK el 0) al=0) (k:Nat) (hk:k<=100) :
  tG B g eA el.length ec mb 48 [.int .i64 k,.slice A ql.length c,.slice A2 al.length c2] (qJ el k ql al):=
 Hu hB hR hE hR2 k iu fun a ha=>by
  obtain⟨i2,hi2⟩:=List.getElem?_of_mem ha;obtain⟨b2,o2,hP2⟩:=hR2.elem hi2;exact Qg hB 3 0 iu a hP2.2 (jd hE2 a ha) k iu
end
end
section
section
variable {P:Program} {f:FuncId} {args:Array Value} {wz w w6:World} {Q:Ending->World->Prop} {nd q E E' X T R Rq:Int} {g:Nat} {A:Option Addr} {n c:Nat}
theorem mS (C:Calls P f args wz fun e w'=>PE w6 nd q E' e w') (hF:E'=E) (HV:Hid (X=jD E T)) (hn:∀w7,E≠0->X=E->ik w6 w7->Q (uw nd q E) w7)
  (hz:∀w7,E=0->Hid (X=T)->ik w6 w7->Q (.returned (.tuple #[])) w7):Calls P f args wz Q:=by
 subst hF;refine C.mono fun e w7 hp=>?_
 by_cases hE:E'=0
 ·obtain⟨rfl,c⟩:=hp.Rv hE
  exact hz w7 hE (HV.out.trans (kC hE)) c
 obtain⟨rfl,c⟩:=hp.Oq hE;exact hn w7 hE (HV.out.trans (lR hE)) c
theorem mP (C:Calls P f args wz fun e w'=>PE w6 nd q E' e w') (hF:E'=E) (HV:Hid (X=jD E T)) (HS:Hid (X≠0->R=X)) (d:ik w w6)
  (hz:∀w7,Hid (X=T)->ik w6 w7->Q (.returned (.tuple #[])) w7)
  (g:∀w7 F,PE w nd q R (uw nd q F) w7->Q (uw nd q F) w7:=by intro _ _ HP;unfold uw;go_wp2;exact⟨rfl,HP⟩):Calls P f args wz Q:=
 mS C hF HV (fun w7 hE hX c=>g w7 E (by rw[HS.out (by rw[hX];exact hE),hX];exact CS hE (ij d c))) (fun w7 _=>hz w7)
theorem Nz (C:Calls P f args wz fun e w'=>PE w6 nd q E' e w') (hF:E'=E) (HV:Hid (X=jD E T)) (HS:Hid (X≠0->R=X)) (d:ik w w6) (hE:E≠0:=by decide)
  (g:∀w7 F,PE w nd q R (uw nd q F) w7->Q (uw nd q F) w7:=by intro _ _ HP;unfold uw;go_wp2;exact⟨rfl,HP⟩):Calls P f args wz Q:=
 mS C hF HV (fun w7 hE hX c=>g w7 E (by rw[HS.out (by rw[hX];exact hE),hX];exact CS hE (ij d c))) (fun _ h=>absurd h hE)
end
end
end Go.Proofs.YtnigblndonocfaaGreatDoor
