/- A part of the proof. -/
import Derived.Test.YtnigblndonocfaaGreatDoorP15
set_option linter.unusedVariables false
set_option linter.unusedSimpArgs false
namespace Go.Proofs.YtnigblndonocfaaGreatDoor
set_option maxRecDepth 100000
set_option maxHeartbeats 6400000
open Go.RowKit Go.BigFrame Go.Proofs.Tryz
def Yc:nh:=WG 0 0 0 0 0 0 0
theorem XF:kT ⟨#[114]⟩=true:=by decide +kernel
theorem Xf:kT ⟨#[110]⟩=true:=by decide +kernel
theorem XR:kT ⟨#[99,111,117,110,116]⟩=true:=by decide +kernel
theorem XJ:qk [] (cF 0 0 0)=0:=by
 have b:(cF 0 0 0).list=[cF 0 0 0,cV ⟨#[114]⟩,cZ,cN 0 0,.mk 7 0 0 0 ⟨#[]⟩ (some ⟨0,0,none⟩) 2 [cZ,cV ⟨#[110]⟩],cZ,cV ⟨#[110]⟩,cO]:=rfl;have k:uo (cF 0 0 0)=0:=by
  show Ay 4 0 0 0 ⟨#[]⟩ 3=0
  simp[Ay,xJ,fA,fO,fT,fN,fW,mG]
 have j:uo (cN 0 0)=0:=by
  show Ay 3 6 0 0 ⟨#[]⟩ 2=0
  simp[Ay,xJ,fA,fO,fT,fN,fW,mG,kY]
 have i:uo (.mk 7 0 0 0 ⟨#[]⟩ (some ⟨0,0,none⟩) 2 [cZ,cV ⟨#[110]⟩])=0:=by
  show Ay 7 0 0 0 ⟨#[]⟩ 2=0
  simp[Ay,xJ,fA,fO,fT,fN,fW,mG]
 have d:∀v:Int,v=0\/v=1->uo (.mk 1 0 2 v ⟨#[]⟩ none 0 [])=0:=fun v e=>by
  show Ay 1 0 2 v ⟨#[]⟩ 0=0
  rcases e with rfl | rfl
  ·simp[Ay,xJ,fA,fO,fT,fN,fW,mG]
  simp[Ay,xJ,fA,fO,fT,fN,fW,mG]
 have a:uo cZ=0:=d 0 (.inl rfl);have g:uo cO=0:=d 1 (.inr rfl);have c:∀s,kT s=true->uo (cV s)=0:=fun s f=>by
  show Ay 2 0 0 0 s 0=0
  simp[Ay,xJ,fA,fO,fT,fN,fW,mG,f]
 have h:vj (cF 0 0 0)=0:=by
  unfold vj;rw[iV (by rw[show (cF 0 0 0).size=8 from rfl,show (cF 0 0 0).depth=4 from rfl];decide),b,kR,iG k,kR,iG (c _ XF),kR,iG a,kR,iG j,kR,iG i,kR,iG a,kR,iG (c _ Xf),kR,iG g,kR]
 unfold qk;rw[iG h,b];rfl
theorem Uh:(nv [] [Yc]).2.2=0:=by
 have a:rN [] ⟨⟨some ⟨0,0,none⟩,1,[⟨#[110]⟩]⟩,cF 0 0 0⟩=0:=by
  unfold rN;simp only[];rw[XJ];simp[iw,jA,Xf,jD,iX]
 have b:mY [] Yc=0:=by
  unfold mY Ek KN nN Yc WG;simp only[];rw[show iw (rN []) [⟨⟨some ⟨0,0,none⟩,1,[⟨#[110]⟩]⟩,cF 0 0 0⟩]=0 from by rw[iw,a];rfl];simp[iw,jA,XR,XF,Xf,jD,iX,jN,jV]
 unfold nv;rw[iG (by simp[Im,iw,jD,iX]),qy,iG b,qy]
theorem WJ:∀n∈[Yc].map nh.er,QB [] n:=fun n hn=>by
 rw[mJ,tW,yw]at hn;subst hn;have g:rd [] []:=⟨List.nodup_nil,List.nodup_nil,fun s hs=>by cases hs⟩;obtain⟨-,-,-,h2⟩:=uX Uh;have hno:∀e,Ul [] e:=fun e x _ _=>TC
 exact g.node (wB _) (h2 _ nG) { q:=fun q _=>hno _,a:=by show Eq _ [];rw[Eq];trivial,s:=fun x _=>hno _,e:=fun x _=>hno _ }
theorem WH:qK [] [Yc]=([]:List Pc)++((ya [] Yc++(nr [] 1 []++([]++([]++(rL 0 [mB [108,101,116]]++((rL 1 (vU [⟨#[110]⟩]++.sp 32::mf [61]::.sp 32::(kX [] (cF 0 0 0).er++[mf [59]]))++[])++[]++rL 0 [mB [116,101,108]]))))))++[]):=rfl
theorem WI:(iY (ya [] Yc)).length<=1000:=by decide +kernel
theorem XI:(iY (kX [] (cF 0 0 0).er)).length<=1600:=by
 have c:=yU (el:=[]) (fun u a=>by cases a) _ (Ki XJ).1;have b:mK (cF 0 0 0).er=8:=rfl;rw[b]at c;omega
theorem Wn:(iY (qK [] [Yc])).length<=65536:=by
 rw[WH];have c:=WI;have d:=XI;generalize kX [] (cF 0 0 0).er=X at d⊢;generalize ya [] Yc=Y at c⊢;have a:vU [⟨#[110]⟩]=[rM ⟨#[110]⟩]:=rfl;have b:nr [] 1 []=[]:=rfl;rw[b,a];simp only[iC,KB,jn,jl,kH,lQ,ja,sb,oV,mo,py,wJ,lP];have g:(Lib.repeatL [32,32] 0:List UInt8).length=0:=rfl;have f:(Lib.repeatL [32,32] 1:List UInt8).length=2:=rfl;have e:(⟨#[110]⟩:yB).data.toList.length=1:=rfl;omega
theorem WQ (d1 d2 b9 b12 b19 b23 b26:Nat):([Yc]:List nh).map nh.er=[WG d1 d2 b9 b12 b19 b23 b26].map nh.er:=rfl
theorem Wm (d1 d2 b9 b12 b19 b23 b26:Nat):(nv [] [WG d1 d2 b9 b12 b19 b23 b26]).2.2=0:=LM rfl (WQ ..) Uh
theorem Vq (d1 d2 b9 b12 b19 b23 b26:Nat):qK [] [WG d1 d2 b9 b12 b19 b23 b26]=qK [] [Yc]:=rfl
theorem Uw {w0:yM} {eA nA:zA} {ec nc:Nat} {el:List iW} {nl:List nh} (hen:ir 2 sM w0 ⟨eA,ec,el⟩) (hnd:ir 8 (Gy True) w0 ⟨nA,nc,nl⟩) (hE:(nv el nl).2.2≠0) (w:yM) (hw:ik w0 w) :
  Calls prog 6 #[.agg #[(eA,el,ec),(nA,nl,nc)]] w fun e w'=>(∃E:Int,e=.returned (.tuple #[.string ⟨#[]⟩,E]))/\ik w w':=by
 have d:=iB (fun U (f:ik w U)=>BO hen hnd U (ij hw f));obtain⟨k,c⟩:=jt ((nv el nl).1);obtain⟨j,b⟩:=jt ((nv el nl).2.1);obtain⟨E,a⟩:=jt ((nv el nl).2.2);rw[c,b,a]at d;rw[a]at hE;have g:(E==0)=false:=by simpa using hE
 clear c b a hen hnd;go_in;go_wp2_with fail;refine (d.out _ zc).mono ?_;rintro e i ⟨rfl,h⟩;go_wp2_with fail;exact jR (v:=.tuple #[.string ⟨#[]⟩,E]) (by simp[results,results6,go_sem]) rfl ⟨⟨E,rfl⟩,ij zc (ij h zc)⟩
theorem Ux {w0:yM} {eA nA:zA} {ec nc:Nat} {el:List iW} {nl:List nh} (hen:ir 2 sM w0 ⟨eA,ec,el⟩) (hnd:ir 8 (Gy True) w0 ⟨nA,nc,nl⟩) (htab:Lib.TabIs prog w0 "internal/strconv.uint64pow10" .u64 Lib.pow10Tab) (hfit:(nv el nl).2.2=0->(iY (qK el nl)).length<=140737488355328) (w:yM) (hw:ik w0 w) :
  Calls prog 6 #[.agg #[(eA,el,ec),(nA,nl,nc)]] w fun e w'=>∃(T:yB) (E:Int),e=.returned (.tuple #[T,E])/\ik w w'/\T.size<=140737488355328/\((nv el nl).2.2=0->E=0/\T.data.toList=iY (qK el nl)):=by
 by_cases h:(nv el nl).2.2=0
 ·refine (Iv hen hnd htab h (hfit h) w hw).mono ?_
  rintro e w' ⟨rfl,a⟩;exact⟨_,0,rfl,a,by rw[yK];exact hfit h,fun _=>⟨rfl,rfl⟩⟩
 refine (Uw hen hnd h w hw).mono ?_;rintro e w' ⟨⟨E,rfl⟩,a⟩;exact⟨_,E,rfl,a,by decide,fun h'=>absurd h' h⟩
theorem mp {α β γ:Type} {f g:α->List γ} {er:α->β} (h:∀a b,er a=er b->f a=g b):∀{l m:List α},l.map er=m.map er->l.flatMap f=m.flatMap g
 |[],[],_=>rfl
 |[],b::m,e=>by cases e
 |a::l,[],e=>by cases e
 |a::l,b::m,e=>by
  rw[mJ,mJ]at e;injection e with e1 e2
  rw[pZ,pZ,h a b e1,mp h e2]
theorem Vm {α β γ:Type} {f g:α->γ} {er:α->β} (h:∀a b,er a=er b->f a=g b):∀{l m:List α},l.map er=m.map er->l.map f=m.map g
 |[],[],_=>rfl
 |[],b::m,e=>by cases e
 |a::l,[],e=>by cases e
 |a::l,b::m,e=>by
  rw[mJ,mJ]at e;injection e with e1 e2
  rw[mJ,mJ,h a b e1,Vm h e2]
section
variable {el el':List iW}
theorem WP (h:el.map iW.er=el'.map iW.er) (i:Nat):(el[i]?).map iW.er=(el'[i]?).map iW.er:=by
 rw[<- JL,<- JL,h]
theorem U7 (h:el.map iW.er=el'.map iW.er) (t v:Int):wm el t v=wm el' t v:=by
 have e:=WP h (t-3).toNat;unfold wm;cases h1:el[(t-3).toNat]?<;>cases h2:el'[(t-3).toNat]?<;>rw[h1,h2]at e
 ·cases e
 ·cases e
 rename_i u u'
 obtain⟨n,⟨A,c,l⟩⟩:=u;obtain⟨a,⟨f,d,b⟩⟩:=u';injection e with e
 unfold iW.er at e;injection e with e1 e2
 simp only[]at e1 e2;subst e1;subst e2;rfl
theorem WU (h:el.map iW.er=el'.map iW.er) (t:Int):F6 el t=F6 el' t:=by
 have e:=WP h (t-3).toNat;unfold F6;cases h1:el[(t-3).toNat]?<;>cases h2:el'[(t-3).toNat]?<;>rw[h1,h2]at e
 ·cases e
 ·cases e
 rename_i u u'
 obtain⟨n,⟨A,c,l⟩⟩:=u;obtain⟨a,⟨f,d,b⟩⟩:=u';injection e with e
 unfold iW.er at e;injection e with e1 e2
 simp only[]at e1 e2;subst e1;subst e2;rfl
theorem Wo (h:el.map iW.er=el'.map iW.er) (t:Int):∀(L:List Ar) (i:Nat),wj el t i L=wj el' t i L
 |[],i=>rfl
 |a::l,i=>by rw[wj,wj,U7 h,Wo h t l (i+1)]
theorem W_ (h:el.map iW.er=el'.map iW.er) (k o t v:Int) (s:yB) (L:List Ar):uF el k o t v s L=uF el' k o t v s L:=by
 unfold uF FX;rw[U7 h,Wo h]
mutual
theorem Uz (h:el.map iW.er=el'.map iW.er):∀x:Ex,kX el x=kX el' x
 |.mk k o t v s xs=>by rw[kX,kX,Vi h xs,W_ h]
theorem Vi (h:el.map iW.er=el'.map iW.er):∀xs:List Ex,jy el xs=jy el' xs
 |[]=>by rw[jy,jy]
 |x::xs=>by rw[jy,jy,Uz h x,Vi h xs]
end
theorem Wk (h:el.map iW.er=el'.map iW.er) (a b:iO) (he:a.er=b.er):pv el a=pv el' b:=by
 obtain⟨n,t,⟨A,c,l⟩⟩:=a;obtain⟨e,d,⟨i,g,f⟩⟩:=b;unfold iO.er at he;injection he with h1 h2 h3
 simp only[]at h1 h2 h3;subst h1;subst h2;subst h3;unfold pv o_;rw[WU h,show Lk el=Lk el' from funext fun o=>by unfold Lk FX;rw[U7 h]]
theorem TW (h:el.map iW.er=el'.map iW.er) {l m:List iO} (he:l.map iO.er=m.map iO.er):kO el l=kO el' m:=by
 unfold kO;rw[Vm (Wk h) he]
theorem Ud (h:el.map iW.er=el'.map iW.er) (k:Nat) {l m:List iO} (he:l.map iO.er=m.map iO.er):nr el k l=nr el' k m:=by
 unfold nr;rw[TW h he,pW he]
theorem Wh (h:el.map iW.er=el'.map iW.er) (k:Nat) (a b:oX) (he:a.er=b.er):zj el k a=zj el' k b:=by
 unfold oX.er at he;injection he with h1 h2
 unfold zj;rw[h1,h2,Uz h]
theorem VQ (h:el.map iW.er=el'.map iW.er) (k:Nat) (wd:List UInt8) (nms:List yB) (a b:ma) (he:a.er=b.er):On el k wd nms a=On el' k wd nms b:=by
 unfold ma.er at he;injection he with h1 h2 h3
 unfold On;rw[h1,h2,h3,Uz h]
mutual
theorem WW (h:el.map iW.er=el'.map iW.er):∀(a b:StT) (k:Nat) (nms:List yB),a.er=b.er->IC el k nms a=IC el' k nms b
 |.mk nm lo eq A c au ul ut,.mk nm' lo' eq' A' c' au' ul' ut',k,nms,he=>by
  rw[StT.er,StT.er]at he;injection he with h1 h2 h3 h4 h5 h6
  subst h1;rw[IC,IC,Ud h _ h2,UE h au au' _ h4,mp (Wh h _) h3];unfold sk;rw[mp (VQ h _ _ _) h5,mp (VQ h _ _ _) h6]
theorem Vg (h:el.map iW.er=el'.map iW.er):∀(a b:List StT) (k:Nat) (nms:List yB),StT.kv a=StT.kv b->wi el k nms a=wi el' k nms b
 |[],[],_,_,_=>by rw[wi,wi]
 |[],b::m,_,_,he=>by rw[StT.kv,StT.kv]at he;cases he
 |a::l,[],_,_,he=>by rw[StT.kv,StT.kv]at he;cases he
 |a::l,b::m,k,nms,he=>by
  rw[StT.kv,StT.kv]at he;injection he with h1 h2
  rw[wi,wi,WW h a b k nms h1,Vg h l m k nms h2]
theorem Xl (h:el.map iW.er=el'.map iW.er):∀(a b:AuT) (k:Nat),a.er=b.er->CN el k a=CN el' k b
 |.mk A c l,.mk A' c' l',k,he=>by
  rw[AuT.er,AuT.er]at he;injection he with he
  have hn:l.map StT.name=l'.map StT.name:=by have:=nQ (fun x=>x.map F5.nm) he;simpa[EZ] using this
  rw[CN,CN,hn,Vg h l l' k _ he]
theorem UE (h:el.map iW.er=el'.map iW.er):∀(a b:List AuT) (k:Nat),AuT.kv a=AuT.kv b->vN el k a=vN el' k b
 |[],[],_,_=>by rw[vN,vN]
 |[],b::m,_,he=>by rw[AuT.kv,AuT.kv]at he;cases he
 |a::l,[],_,he=>by rw[AuT.kv,AuT.kv]at he;cases he
 |a::l,b::m,k,he=>by
  rw[AuT.kv,AuT.kv]at he;injection he with h1 h2
  rw[vN,vN,Xl h a b k h1,UE h l m k h2]
end
theorem UB:∀l:List AuT,AuT.kv l=l.map AuT.er
 |[]=>rfl
 |x::l=>by rw[mJ,AuT.kv,UB l]
theorem Us (h:el.map iW.er=el'.map iW.er) (kw:List UInt8) (a b:Tx) (he:a.er=b.er):kI el kw a=kI el' kw b:=by
 unfold kI;rw[he,Uz h]
theorem Wa (h:el.map iW.er=el'.map iW.er) (a b:nh) (he:a.er=b.er):qo el a=qo el' b:=by
 unfold nh.er at he;injection he with h1 h2 h3 h4 h5 h6 h7 h8
 unfold qo ya qJ;rw[h1,TW h h2,TW h h3,Ud h _ h4,mp (Us h _) h7,mp (Us h _) h8,mp (Wh h _) h5,UE h a.autos.l b.autos.l 1 (by rw[UB,UB];exact h6)]
theorem VP (a b:iW) (he:a.er=b.er):sF a=sF b:=by
 unfold iW.er at he;injection he with h1 h2
 unfold sF;rw[h1,h2]
theorem Ww (h:el.map iW.er=el'.map iW.er) {nl nl':List nh} (hn:nl.map nh.er=nl'.map nh.er):qK el nl=qK el' nl':=by
 unfold qK;rw[mp VP h,mp (Wa h) hn]
end
theorem Ic {w U:yM} (h:Lib.TabIs prog w "internal/strconv.uint64pow10" .u64 Lib.pow10Tab) (hU:ik w U):Lib.TabIs prog U "internal/strconv.uint64pow10" .u64 Lib.pow10Tab:=Go.Joins.tab_stays QR h hU.below (js _)
theorem Uu (w:yM) (htab:Lib.TabIs prog w "internal/strconv.uint64pow10" .u64 Lib.pow10Tab) {eA nA:zA} {ec nc:Nat} {el:List iW} {nl:List nh} (hp:FJ True w ⟨⟨eA,ec,el⟩,⟨nA,nc,nl⟩⟩) (hw:yh (nl.map nh.er)<=1048576) :
  Calls prog 4 #[.agg #[(eA,el,ec),(nA,nl,nc)]] w fun e w'=>e=.returned (.bool true)/\ik w w':=by
 obtain⟨W0,hW0,a0,B0⟩:∃W,w.alloc (.cells #[(eA,el,ec),(nA,nl,nc)] 25)=W/\ik w W/\iP W w 25 #[(eA,el,ec),(nA,nl,nc)]:=⟨_,rfl,zc,jC ..⟩;have HCt:=iB UU;have HT:=iB htab;have HP:=iB (And.intro hp hw);have HB0:=iB B0;have HW0:=iB hW0;have ha0:=iB a0;clear htab hp hw B0 hW0 a0;go_in;go_wp2_with fail;try rw[HW0.out]
 refine (HCt.out _).mono ?_;rintro e w1 ⟨a1,bn,d1,d2,b9,b12,b19,b23,b26,rfl,hr1⟩;have aw1:=ij ha0.out a1;have HS1:=iB (Iv (eA:=none) (ec:=0) (el:=[]) hr1.enums hr1.nodes (Ic HT.out aw1) (Wm d1 d2 b9 b12 b19 b23 b26) (by rw[Vq];exact jW Wn iI) w1 (iq _));rw[Vq]at HS1;obtain⟨T0,hT0⟩:=jt (lG (iY (qK [] [Yc])));have hTd:T0.data.toList=iY (qK [] [Yc]):=by rw[<- hT0];rfl
 have hTs:T0.size<=65536:=by rw[<- jr,hTd];exact Wn
 rw[hT0]at HS1;have hbk:=Uo Uh WJ hTd hTs;have HPs:=iB (fun U=>xp T0 (jW hTs iI) U);have HBk:=iB hbk;clear hbk hTd hTs hT0 hr1;go_wp2_with fail;refine (HS1.out).mono ?_;rintro e w2 ⟨rfl,a2⟩;have aw2:=ij aw1 a2;clear HS1;go_wp2_with fail;refine (HPs.out _).mono ?_;rintro e w3 ⟨a3,v3,a',er3,rfl,hq⟩;rcases hq with⟨-,-,hb⟩ | ⟨rfl,pg2,rfl,hr2,hgd2⟩
 ·exact absurd hb HBk.out.1
 obtain⟨q1,q2⟩:=HBk.out.2 pg2 hgd2;obtain⟨⟨eA2,ec2,el2⟩,⟨nA2,nc2,nl2⟩⟩:=pg2;have aw3:=ij aw2 a3;obtain⟨W4,hW4,a4,B4⟩:∃W,w3.alloc (.cells #[(eA2,el2,ec2),(nA2,nl2,nc2)] 25)=W/\ik w3 W/\iP W w3 25 #[(eA2,el2,ec2),(nA2,nl2,nc2)]:=⟨_,rfl,zc,jC ..⟩;have hr2':=((hr2.sub (vk _ _)).here w3).here W4 (k:=a4);have aw4:=ij aw3 a4;have HK:Hid (∀U,ik W4 U->U.cell? w3.heap.size=(eA2,el2,ec2)/\U.cell? (w3,1)=(nA2,nl2,nc2)):=iB fun U hU=>by
  have x:=B4.after (k:=hU);exact⟨x.cell 0,x.cell 1⟩
 have HSm:Hid (∀(V:yM) (bn d1 d2 b9 b12 b19 b23 b26:Nat),ik W4 V->FJ True V ⟨⟨none,0,[]⟩,⟨some bn,1,[WG d1 d2 b9 b12 b19 b23 b26]⟩⟩->∀U,ik V U->Calls prog 7 #[.agg #[(eA2,el2,ec2),(nA2,nl2,nc2)],.agg #[(),.slice (some bn) 1 1]] U fun e w'=>e=.returned (.bool true)/\ik U w'):=iB fun V bn d1 d2 b9 b12 b19 b23 b26 hV hr U hU=>by
  exact psame_yes (hr2'.here V).enums hr.enums (hr2'.here V).nodes hr.nodes q1.symm (q2.symm.trans (WQ d1 d2 b9 b12 b19 b23 b26)) U hU
 have k0:=(HK.out W4 (iq _)).1;have k1:=(HK.out W4 (iq _)).2;have kl:=B4.is_le;have HB4:=iB (And.intro B4 aw4);clear B4 aw4 a4 hr2 hr2' hgd2 q1 q2 HBk HPs;unfold Gt;simp only[];go_wp2_with fail;try rw[hW4]
 have tk1:True:=trivial;have tk2:True:=trivial;go_region_held3 (fun U=>U.cell? w3=(eA2,el2,ec2)/\U.cell? (w3,1)=(nA2,nl2,nc2)) (exact HK.out _ zc)
  (first
   |(have _t:=tk1;go_at_call 8;(with_reducible refine (HCt.out _).mono ?_);rintro e V1 ⟨av,bn',d1',d2',b9',b12',b19',b23',b26',rfl,hr'⟩;obtain⟨yv,rfl⟩:=@jP _ V1 av;clear av;replace hr':=iB hr';clear _t tk1)
   |(have _t:=tk2;go_at_call 7;(with_reducible refine (HSm.out _ _ _ _ _ _ _ _ _ zc hr'.out _ zc).mono ?_);rintro e V2 ⟨rfl,av⟩;obtain⟨yv2,rfl⟩:=@jP _ V2 av;clear av;clear _t tk2))
 obtain⟨W5,hW5,a5⟩:∃W,(W4.drew.more yv).more yv2=W/\ik W4 W:=⟨_,rfl,zc⟩;rw[hW5];have aw5:=ij HB4.out.2 a5;have x0:W5.cell? w=(eA,el,ec):=(HB0.out.after (k:=ij a1 (ij a2 (ij a3 (ij (show ik w3 W4 by rw[<- hW4];infer_instance) a5))))).cell 0;have x1:W5.cell? (w,1)=(nA,nl,nc):=(HB0.out.after (k:=ij a1 (ij a2 (ij a3 (ij (show ik w3 W4 by rw[<- hW4];infer_instance) a5))))).cell 1;have xl:Le (w+1) W5:=⟨(HB0.out.after (k:=ij a1 (ij a2 (ij a3 (ij (show ik w3 W4 by rw[<- hW4];infer_instance) a5))))).lt⟩;have hp5:=HP.out.1.here W5 (k:=aw5);have HCk:=iB (U6 hp5.enums hp5.nodes);have HSh:=iB (fun U (hU:ik W5 U)=>Ux hp5.enums hp5.nodes (Ic HT.out aw5) (fun h=>NK h HP.out.2) U hU);have HP5:=iB hp5;have HX:=iB (And.intro aw5 (And.intro (HB4.out.1.after (k:=a5)) (And.intro (HB0.out.after (k:=ij a1 (ij a2 a3))).lt (HB0.out.after (k:=ij a1 (ij a2 (ij a3 (ij (show ik w3 W4 by rw[<- hW4];infer_instance) a5))))))));clear hW4 hW5 hp5 HSm HK HCt hr' k0 k1 kl aw5 aw3 aw2 aw1 a1 a2 a3 a5 HB4 HB0;go_wp2_with fail;refine (HCk.out).mono ?_;rintro e w6 ⟨a6,nd,q,E,rfl,hG⟩;obtain⟨W6,hW6,b6⟩:∃W,w6.alloc (.cells #[nd,q] 35)=W/\ik w6 W:=⟨_,rfl,zc⟩;have a56:=ij a6 b6
 have y0:W6.cell? ⟨w.heap.size,0,none⟩=some (.slice eA el.length ec):=(Dj (a:=⟨w.heap.size,0,none⟩) (a56.below.block _ xl.le)).trans x0;have y1:W6.cell? ⟨w.heap.size,1,none⟩=some (.slice nA nl.length nc):=(Dj (a:=⟨w.heap.size,1,none⟩) (a56.below.block _ xl.le)).trans x1;have yl:Le (w.heap.size+1) W6:=⟨jW xl.le a56.below.size⟩;clear x0 x1 HCk;go_wp2_with fail;refine (HSh.out W6 a56).mono ?_;rintro e w7 ⟨T,E7,rfl,a7,hTs,hTg⟩;have a57:=ij a56 a7;have aw7:=ij HX.out.1 a57;by_cases hE:E=0;rotate_left
 ·have hEb:(E==0)=false:=by simpa using hE
  clear HSh hG hTg;go_wp2;go_ret;exact⟨rfl,aw7⟩
 have hg:=hG hE;subst hE;obtain⟨rfl,hTd⟩:=hTg hg.1;by_cases hbig:65536<T.size
 ·have hbI:(65536:Int)<(T.size:Int):=iu
  clear HSh hG hTg hg hTd;go_wp2;go_ret;exact⟨rfl,aw7⟩
 have hbI:¬(65536:Int)<(T.size:Int):=iu
 have HBk:=iB (Uo hg.1 (UY.nx hg) hTd iu);have HPs:=iB (fun U=>xp T hTs U);have Hg:=iB (And.intro hg.1 hTd);clear HSh hG hTg hg hTd;go_wp2_with fail;refine (HPs.out _).mono ?_;rintro e w8 ⟨a8,v8,a'',er8,rfl,hq⟩;rcases hq with⟨-,-,hb⟩ | ⟨rfl,pg3,rfl,hr3,hgd3⟩
 ·exact absurd hb HBk.out.1
 obtain⟨q1,q2⟩:=HBk.out.2 pg3 hgd3;obtain⟨⟨eA3,ec3,el3⟩,⟨nA3,nc3,nl3⟩⟩:=pg3;have a58:=ij a57 a8;have aw8:=ij HX.out.1 a58;have B8:=HX.out.2.1.after (k:=a58);have hlt:w3.heap.size<w7:=rO HX.out.2.1.lt a57.below.size;obtain⟨W9,hW9,aw9,C9,hp9,hq9,C1⟩:∃W,(w8.setCell w3 (.slice eA3 el3 ec3)).setCell (w3,1) (.slice nA3 nl3 nc3)=W/\ik w W/\iP W w3 25 #[(eA3,el3,ec3),(nA3,nl3,nc3)]/\FJ True W ⟨⟨eA,ec,el⟩,⟨nA,nc,nl⟩⟩/\FJ True W ⟨⟨eA3,ec3,el3⟩,⟨nA3,nc3,nl3⟩⟩/\iP W w 25 #[(eA,el,ec),(nA,nl,nc)]:=by
  have aw9:ik w ((w8.setCell w3 (.slice eA3 el3 ec3)).setCell (w3,1) (.slice nA3 nl3 nc3)):=pQ (h:=pQ (h:=aw8) (k:=⟨CQ HX.out.2.2.1⟩) _ _) (k:=⟨CQ HX.out.2.2.1⟩) _ _;exact⟨_,rfl,aw9,(B8.jx 0 _).jx 1 _,HP.out.1.here _ (k:=aw9),((hr3.below (j' hlt _ _ _).below).below (j' hlt _ _ _).below).sub (vk _ _),((HX.out.2.2.2.after (k:=a58)).qU (p:=w3.heap.size) (Nat.ne_of_lt HX.out.2.2.1) _).qU (p:=(w3.heap.size,1)) (Nat.ne_of_lt HX.out.2.2.1) _⟩
 have hpe:=Ww q1 q2;have hc3:=LM q1 q2 Hg.out.1;have hT3:lG (iY (qK el3 nl3))=T:=by
  rw[<- hpe,<- Hg.out.2];exact nQ ByteArray.mk (Array.toArray_toList ..)
 have HS9:Hid (∀U,ik W9 U->Calls prog 6 #[.agg #[(eA3,el3,ec3),(nA3,nl3,nc3)]] U fun e w'=>e=.returned (.tuple #[T,JX])/\ik U w'):=iB fun U hU=>by
  have h:=Iv hq9.enums hq9.nodes (Ic HT.out aw9) hc3 (by rw[<- hpe,<- Hg.out.2,jr];omega) U hU;rw[hT3]at h;exact h
 have HQ9:Hid (∀U,ik W9 U->Calls prog 7 #[.agg #[(eA,el,ec),(nA,nl,nc)],.agg #[(eA3,el3,ec3),(nA3,nl3,nc3)]] U fun e w'=>e=.returned (.bool true)/\ik U w'):=iB fun U hU=>by
  exact psame_yes hp9.enums hq9.enums hp9.nodes hq9.nodes q1 q2 U hU
 have x0:=B8.cell 0;have x1:=B8.cell 1;simp only[List.getElem?_toArray,List.getElem?_cons_zero,List.getElem?_cons_succ]at x0 x1;have f0:=B8.frozen 0;have f1:=B8.frozen 1;have bl:=B8.is_le;have HW9:=iB hW9;have HC:=iB (And.intro C1 (And.intro C9 aw9));unfold Gt;simp only[];clear hW9 hr3 hgd3 q1 q2 HBk HPs B8 hlt hpe hc3 hT3 hp9 hq9 C1 C9;go_upto_region 10 with fail
 rw[HW9.out];clear HW9 x0 x1 f0 f1 bl;have z0:=HC.out.2.1.cell 0;have z1:=HC.out.2.1.cell 1;simp only[List.getElem?_toArray,List.getElem?_cons_zero,List.getElem?_cons_succ]at z0 z1;have zl:=HC.out.2.1.is_le;go_wp2_with fail;refine (HS9.out _ (iq _)).mono ?_;rintro e w10 ⟨rfl,a10⟩;have D1:=HC.out.1.after (k:=a10);have D9:=HC.out.2.1.after (k:=a10);clear z0 z1 zl y0 y1;have z0:=D9.cell 0;have z1:=D9.cell 1;have u0:=D1.cell 0;have u1:=D1.cell 1;simp only[List.getElem?_toArray,List.getElem?_cons_zero,List.getElem?_cons_succ]at z0 z1 u0 u1;have zl:=D9.is_le;have ul:=D1.is_le;clear D1 D9;go_wp2_with fail;refine (HQ9.out _ (by infer_instance)).mono ?_;rintro e w11 ⟨rfl,a11⟩;have af:=ij HC.out.2.2 (ij a10 a11);go_wp2;go_ret;exact⟨rfl,af⟩
end Go.Proofs.YtnigblndonocfaaGreatDoor
