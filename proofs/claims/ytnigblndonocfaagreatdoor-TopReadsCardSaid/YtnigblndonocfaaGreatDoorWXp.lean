/- A part of the proof. -/
import Derived.Test.YtnigblndonocfaaGreatDoorWOp
set_option linter.unusedVariables false
set_option linter.unusedSimpArgs false
namespace Go.Proofs.YtnigblndonocfaaGreatDoor
set_option maxRecDepth 100000
set_option maxHeartbeats 3200000
open Go.Proofs.Tryz
open Go.RowKit Go.BigFrame
section
section
variable {w0:World} {eA:Option Addr} {ec:Nat} {el:List iW} {mb:Nat}
theorem r_ {k o t v:Int} {s:ByteArray} {A:Option Addr} {c:Nat} {xs:List Tx} (hR:RX w0 (.mk k o t v s A c xs)) (HA:q_ el w0 (qE eA el.length ec mb) xs) (w:World) (hw:ik w0 w) (i:Nat) (hi:i<xs.length) :
  ∃b p k1 o1 t1 v1 s1 A1 n1 c1,∃l q:List UInt8,A=some ⟨b,p,none⟩/\Le (b+1) w /\
   w.cell? ⟨b,p+i*6,none⟩=some (.int .i64 k1)/\w.cell? ⟨b,p+i*6+1,none⟩=some (.int .i64 o1)/\w.cell? ⟨b,p+i*6+2,none⟩=some (.int .i64 t1)/\w.cell? ⟨b,p+i*6+3,none⟩=some (.int .i64 v1)/\w.cell? ⟨b,p+i*6+4,none⟩=some (.string s1)/\w.cell? ⟨b,p+i*6+5,none⟩=some (.slice A1 n1 c1) /\
   iY (pF (jy el (Tx.kv xs)) i).l=l/\l.length<=1000000/\iY (kM (pF (jy el (Tx.kv xs)) i))=q/\q.length<=1000002 /\
   Hid (∀U,ik w U->Calls prog 47 #[.agg #[.slice eA el.length ec,.map (some mb)],.agg #[k1,o1,t1,v1,s1,.slice A1 n1 c1]] U fun e w'=>e=.returned (.string (lG l))/\∃z,w'=U.more z) /\
   Hid (∀U,ik w U->Calls prog 89 #[.agg #[.slice eA el.length ec,.map (some mb)],.agg #[k1,o1,t1,v1,s1,.slice A1 n1 c1]] U fun e w'=>e=.returned (.string (lG q))/\∃z,w'=U.more z):=by
 obtain⟨b,p,k1,o1,t1,v1,s1,A1,c1,j,hA,a6,HY,HR,d0,d1,d2,d3,d4,d5⟩:=(hR.below hw.below).part (i:=i) hi;obtain⟨l,hl,a1,J,I,a7⟩:=C_ (W:=qE eA el.length ec mb) HA w hw HY;have R:=wS (pF (jy el (Tx.kv xs)) i);rw[hl]at R⊢;exact⟨b,p,k1,o1,t1,v1,s1,A1,j.length,c1,_,_,hA,a6,d0,d1,d2,d3,d4,d5,rfl,a1,rfl,iu,iy J,iy I⟩
theorem Pr {o t v:Int} {s:ByteArray} {A:Option Addr} {c:Nat} {xs:List Tx} (hR:RX w0 (.mk 5 o t v s A c xs)) (hn:xs.length=1) (HA:q_ el w0 (qE eA el.length ec mb) xs) :
  oC 47 w0 (qE eA el.length ec mb) (vr 5 o t v s A xs.length c) (uF el 5 o t v s (jy el (Tx.kv xs))):=by
 intro w hw;obtain⟨b,p,k0,o0,t0,v0,s0,A0,n0,c0,l0,R,rfl,ab,a',a_,a8,a7,a6,a1,U,J,I,j,ad,aa⟩:=r_ hR HA w hw 0 iu;have hx:lG (iY (uF el 5 o t v s (jy el (Tx.kv xs))))=lG (([112,114,101,32]++R)):=by
  rw[<- I];unfold uF;simp (config:={ decide:=true }) only[↓reduceIte,iC,kH,jn,jl,ja];simp
 rw[hx,hn];obtain⟨S1,e1,g1⟩:=jh (A:=⟨#[112,114,101,32]⟩) (a:=[112,114,101,32]) (B:=lG R) (b:=R) rfl rfl (by simp;omega);rw[<- e1];simp only[zH,xP,Nat.one_mul,CL,Nat.reduceAdd,Nat.reduceMul]at a' a_ a8 a7 a6 a1;unfold qE vr;clear hx hR HA U J I j e1;go_in;go_wp2_with fail;refine iE kp kp ?_;repeat (go_big_quiet_step ((go_at_call 89;with_reducible exact mR (aa.out _ iR))))
 refine wpQuiet_nil ?_;rintro _ ⟨y,rfl⟩;go_wp2;go_ret;exact⟨rfl,jP _ _⟩
theorem O_ {o t v:Int} {s:ByteArray} {A:Option Addr} {c:Nat} {xs:List Tx} (hR:RX w0 (.mk 6 o t v s A c xs)) (hn:xs.length=2) (HA:q_ el w0 (qE eA el.length ec mb) xs) :
  oC 47 w0 (qE eA el.length ec mb) (vr 6 o t v s A xs.length c) (uF el 6 o t v s (jy el (Tx.kv xs))):=by
 intro w hw;obtain⟨b,p,k0,o0,t0,v0,s0,A0,n0,c0,l0,q0,rfl,aq,ak,aj,ai,ah,ag,af,a7,a1,R,I,au,an⟩:=r_ hR HA w hw 0 iu;obtain⟨b',p',k1,o1,t1,v1,s1,A1,n1,c1,l1,q1,a8,ao,ae,ad,ab,aa,a',a_,a6,U,J,j,ar,al⟩:=r_ hR HA w hw 1 iu;cases a8;have hx:lG (iY (uF el 6 o t v s (jy el (Tx.kv xs))))=lG (((q0++[32,45,62,32])++q1)):=by
  rw[<- R,<- J];unfold uF;simp (config:={ decide:=true }) only[↓reduceIte,iC,kH,jn,jl,ja];simp
 rw[hx,hn];obtain⟨S1,e1,g1⟩:=jh (A:=lG q0) (a:=q0) (B:=⟨#[32,45,62,32]⟩) (b:=[32,45,62,32]) rfl rfl (by simp;omega);obtain⟨S2,e2,g2⟩:=jh (B:=lG q1) (b:=q1) e1 rfl (by simp;omega);rw[<- e2];simp only[zH,xP,Nat.one_mul,CL,Nat.reduceAdd,Nat.reduceMul]at ak aj ai ah ag af ae ad ab aa a' a_;unfold qE vr;clear hx hR HA a7 a1 R I a6 U J j e1 e2;go_in;go_wp2_with fail;refine iE kp kp ?_;repeat (go_big_quiet_step (first | (go_at_call 89;with_reducible exact mR (an.out _ iR)) | (go_at_call 89;with_reducible exact mR (al.out _ iR))))
 refine wpQuiet_nil ?_;rintro _ ⟨y,rfl⟩;go_wp2;go_ret;exact⟨rfl,jP _ _⟩
theorem OW {o t v:Int} {s:ByteArray} {A:Option Addr} {c:Nat} {xs:List Tx} (hR:RX w0 (.mk 7 o t v s A c xs)) (hn:xs.length=2) (HA:q_ el w0 (qE eA el.length ec mb) xs) :
  oC 47 w0 (qE eA el.length ec mb) (vr 7 o t v s A xs.length c) (uF el 7 o t v s (jy el (Tx.kv xs))):=by
 intro w hw;obtain⟨b,p,k0,o0,t0,v0,s0,A0,n0,c0,l0,q0,rfl,aq,ak,aj,ai,ah,ag,af,a7,a1,R,I,au,an⟩:=r_ hR HA w hw 0 iu;obtain⟨b',p',k1,o1,t1,v1,s1,A1,n1,c1,l1,q1,a8,ao,ae,ad,ab,aa,a',a_,a6,U,J,j,ar,al⟩:=r_ hR HA w hw 1 iu;cases a8;have hx:lG (iY (uF el 7 o t v s (jy el (Tx.kv xs))))=lG (((q0++[32,102,98,121,32])++q1)):=by
  rw[<- R,<- J];unfold uF;simp (config:={ decide:=true }) only[↓reduceIte,iC,kH,jn,jl,ja];simp
 rw[hx,hn];obtain⟨S1,e1,g1⟩:=jh (A:=lG q0) (a:=q0) (B:=⟨#[32,102,98,121,32]⟩) (b:=[32,102,98,121,32]) rfl rfl (by simp;omega);obtain⟨S2,e2,g2⟩:=jh (B:=lG q1) (b:=q1) e1 rfl (by simp;omega);rw[<- e2];simp only[zH,xP,Nat.one_mul,CL,Nat.reduceAdd,Nat.reduceMul]at ak aj ai ah ag af ae ad ab aa a' a_;unfold qE vr;clear hx hR HA a7 a1 R I a6 U J j e1 e2;go_in;go_wp2_with fail;refine iE kp kp ?_;repeat (go_big_quiet_step (first | (go_at_call 89;with_reducible exact mR (an.out _ iR)) | (go_at_call 89;with_reducible exact mR (al.out _ iR))))
 refine wpQuiet_nil ?_;rintro _ ⟨y,rfl⟩;go_wp2;go_ret;exact⟨rfl,jP _ _⟩
theorem PG {o t v:Int} {s:ByteArray} {A:Option Addr} {c:Nat} {xs:List Tx} (hR:RX w0 (.mk 4 o t v s A c xs)) (hn:xs.length=3) (HA:q_ el w0 (qE eA el.length ec mb) xs) :
  oC 47 w0 (qE eA el.length ec mb) (vr 4 o t v s A xs.length c) (uF el 4 o t v s (jy el (Tx.kv xs))):=by
 intro w hw;obtain⟨b,p,k0,o0,t0,v0,s0,A0,n0,c0,l0,q0,rfl,aE,ay,ax,aw,av,au,ar,a_,a6,ab,R,aB,aH⟩:=r_ hR HA w hw 0 iu;obtain⟨b',p',k1,o1,t1,v1,s1,A1,n1,c1,l1,q1,j,aD,aq,ao,an,al,ak,aj,a8,a1,aa,J,aA,aG⟩:=r_ hR HA w hw 1 iu;cases j;obtain⟨b',p',k2,o2,t2,v2,s2,A2,n2,c2,l2,q2,j,aC,ai,ah,ag,af,ae,ad,a7,U,a',I,az,aF⟩:=r_ hR HA w hw 2 iu;cases j;have hx:lG (iY (uF el 4 o t v s (jy el (Tx.kv xs))))=lG (((((([105,102,32]++l0)++[32,116,104,101,110,32])++l1)++[32,101,108,115,101,32])++l2)):=by
  rw[<- a_,<- a8,<- a7];unfold uF;simp (config:={ decide:=true }) only[↓reduceIte,iC,kH,jn,jl,ja];simp
 rw[hx,hn];obtain⟨S1,e1,g1⟩:=jh (A:=⟨#[105,102,32]⟩) (a:=[105,102,32]) (B:=lG l0) (b:=l0) rfl rfl (by simp;omega);obtain⟨S2,e2,g2⟩:=jh (B:=⟨#[32,116,104,101,110,32]⟩) (b:=[32,116,104,101,110,32]) e1 rfl (by simp;omega);obtain⟨S3,e3,g3⟩:=jh (B:=lG l1) (b:=l1) e2 rfl (by simp;omega);obtain⟨S4,e4,g4⟩:=jh (B:=⟨#[32,101,108,115,101,32]⟩) (b:=[32,101,108,115,101,32]) e3 rfl (by simp;omega);obtain⟨S5,e5,g5⟩:=jh (B:=lG l2) (b:=l2) e4 rfl (by simp;omega);rw[<- e5];simp only[zH,xP,Nat.one_mul,CL,Nat.reduceAdd,Nat.reduceMul]at ay ax aw av au ar aq ao an al ak aj ai ah ag af ae ad;unfold qE vr;clear hx hR HA a_ a6 ab R a8 a1 aa J a7 U a' I e1 e2 e3 e4 e5;go_in;go_wp2_with fail;refine iE kp kp ?_;repeat (go_big_quiet_step (first | (go_at_call 47;with_reducible exact mR (aB.out _ iR)) | (go_at_call 47;with_reducible exact mR (aA.out _ iR)) | (go_at_call 47;with_reducible exact mR (az.out _ iR))))
 refine wpQuiet_nil ?_;rintro _ ⟨y,rfl⟩;go_wp2;go_ret;exact⟨rfl,jP _ _⟩
theorem PU {o t v:Int} {s:ByteArray} {A:Option Addr} {n c:Nat} {L:List Ar} (hS:ID w0 eA ec el) (ht:qS el t) (hv:nq el t v=true) :
  oC 47 w0 (qE eA el.length ec mb) (vr 1 o t v s A n c) (uF el 1 o t v s L):=by
 intro w j;have J:=iy (fun U (I:ik w U)=>Ak (mb:=mb) hS U (ij j I) t v ht hv);rw[show uF el 1 o t v s L=wm el t v from rfl];unfold qE vr;go_in;go_wp2_with fail;refine (J _ iR).mono ?_;rintro e R ⟨rfl,y,rfl⟩;go_wp2;go_ret;exact⟨rfl,jP _ _⟩
theorem Ou {o t v:Int} {s:ByteArray} {A:Option Addr} {n c:Nat} {L:List Ar} :
  oC 47 w0 (qE eA el.length ec mb) (vr 2 o t v s A n c) (uF el 2 o t v s L):=by
 intro w I;have j:lG (iY (uF el 2 o t v s L))=s:=by rw[show uF el 2 o t v s L=[rM s] from rfl,lQ,ja,oV,qd]
 rw[j];unfold qE vr;go_in;go_wp2;go_ret;exact⟨rfl,jP _ _⟩
theorem MA {o t v:Int} {s:ByteArray} {A:Option Addr} {n c:Nat} {L:List Ar} (hs:s.size<=1000000) :
  oC 47 w0 (qE eA el.length ec mb) (vr 11 o t v s A n c) (uF el 11 o t v s L):=by
 intro w R;have j:lG (iY (uF el 11 o t v s L))=lG (([39]++s.data.toList)++[39]):=by rw[show uF el 11 o t v s L=[So s] from rfl,NQ,ja,oV];rfl
 rw[j];obtain⟨S1,J,g1⟩:=jh (A:=⟨#[39]⟩) (a:=[39]) (B:=s) rfl (qd s).symm (by simp;omega);obtain⟨S2,I,U⟩:=jh (B:=⟨#[39]⟩) (b:=[39]) J rfl (by simp;omega);rw[<- I];unfold qE vr;clear j J I hs;go_in;go_wp2;go_ret;exact⟨rfl,jP _ _⟩
theorem CM {k o t v:Int} {s:ByteArray} {A:Option Addr} {n c:Nat} {P:List Pc} (hk:k=3\/k=9\/k=10)
  (hs:oC (if k=3 then 88 else if k=9 then 91 else 92) w0 (qE eA el.length ec mb) (vr k o t v s A n c) P) :
  oC 47 w0 (qE eA el.length ec mb) (vr k o t v s A n c) P:=by
 intro w J;have j:=iy (fun U (R:ik w U)=>hs U (ij J R));unfold qE vr at j⊢;rcases hk with rfl | rfl | rfl
 ·rw[iG rfl]at j
  go_in;go_wp2_with fail;refine (j _ iR).mono ?_;rintro e I ⟨rfl,y,rfl⟩;go_wp2;go_ret;exact⟨rfl,jP _ _⟩
 ·rw[iV iI,iG rfl]at j
  go_in;go_wp2_with fail;refine (j _ iR).mono ?_;rintro e I ⟨rfl,y,rfl⟩;go_wp2;go_ret;exact⟨rfl,jP _ _⟩
 rw[iV iI,iV iI]at j;go_in;go_wp2_with fail;refine (j _ iR).mono ?_;rintro e I ⟨rfl,y,rfl⟩;go_wp2;go_ret;exact⟨rfl,jP _ _⟩
theorem OY {o t v:Int} {s:ByteArray} {A:Option Addr} {c:Nat} {xs:List Tx} (hR:RX w0 (.mk 8 o t v s A c xs)) (hn:xs.length=1) (HA:q_ el w0 (qE eA el.length ec mb) xs) (hS:ID w0 eA ec el) (ht:qS el t) (hv:nq el t v=true) (hs:s.size<=1000000) (hl:(iY (wm el t v)).length<=1000000) :
  oC 47 w0 (qE eA el.length ec mb) (vr 8 o t v s A xs.length c) (uF el 8 o t v s (jy el (Tx.kv xs))):=by
 intro w hw;obtain⟨b,p,k0,o0,t0,v0,s0,A0,n0,c0,l0,R,rfl,ad,aa,a',a_,a8,a7,a6,a1,J,I,j,ae,ab⟩:=r_ hR HA w hw 0 iu;have HC:=iy (fun U (hU:ik w U)=>yH (mb:=mb) hS U (ij hw hU) t v s iu ht hv iu);have hz:(iY (FX el t v s)).length<=2000010:=by
  unfold FX;rw[kH,jn,iC,jl,lQ,jl,ja];have:=jr s;simp at this⊢;omega
 have hx:lG (iY (uF el 8 o t v s (jy el (Tx.kv xs))))=lG ((R++[32])++iY (FX el t v s)):=by
  rw[<- I,show uF el 8 o t v s (jy el (Tx.kv xs))=kM (pF (jy el (Tx.kv xs)) 0)++.sp 32::FX el t v s from rfl,iC,jn];simp
 rw[hx,hn];generalize iY (FX el t v s)=z at HC hz;obtain⟨S1,e1,g1⟩:=jh (A:=lG R) (a:=R) (B:=⟨#[32]⟩) (b:=[32]) rfl rfl (by simp;omega);obtain⟨S2,e2,g2⟩:=jh (B:=lG z) (b:=z) e1 rfl (by simp;omega);rw[<- e2];simp only[zH,xP,Nat.one_mul,CL,Nat.reduceAdd,Nat.reduceMul]at aa a' a_ a8 a7 a6;unfold qE vr;clear hx hR HA a1 J I j e1 e2 hz hS ht hv hs hl;go_in;go_wp2_with fail;refine iE kp kp ?_;repeat (go_big_quiet_step (first | (go_at_call 89;with_reducible exact mR (ab.out _ iR)) | (go_at_call 90;with_reducible exact mR (HC.out _ iR))))
 refine wpQuiet_nil ?_;rintro _ ⟨y,rfl⟩;go_wp2;go_ret;exact⟨rfl,jP _ _⟩
end
end
section
theorem MV (el:List iW) (t:Int) {i:Nat} {l:List Ar} (hi:i<l.length):wj el t i (l.drop i)=.sp 32::mf [40]::(wm el t (if t=1 then 1-(i:Int) else i)++.sp 32::mf [45,62]::.sp 32::((l.getD i Ar.none_).l++mf [41]::wj el t (i+1) (l.drop (i+1)))):=by
 rw[MG hi,wj,wC,qn hi];rfl
section
variable {w0:World} {eA:Option Addr} {ec:Nat} {el:List iW} {mb:Nat}
theorem KV {o t v:Int} {s:ByteArray} {A:Option Addr} {c:Nat} {xs:List Tx} (hR:RX w0 (.mk 9 o t v s A c xs)) (HA:q_ el w0 (qE eA el.length ec mb) xs) (hS:ID w0 eA ec el) (ht:qS el t) (ht2:t≠2) (hn:xs.length=jV el t) (hT:(iY (uF el 9 o t v s (jy el (Tx.kv xs)))).length<=140737488355328) :
  oC 91 w0 (qE eA el.length ec mb) (vr 9 o t v s A xs.length c) (uF el 9 o t v s (jy el (Tx.kv xs))):=by
 intro w hw;obtain⟨L,hL⟩:∃L,(if t=1 then (jy el (Tx.kv xs)).reverse else jy el (Tx.kv xs))=L:=⟨_,rfl⟩;have ar:L.length=xs.length:=by
  rw[<- hL];split
  ·rw[List.length_reverse,nD,nM]
  rw[nD,nM]
 have hx:iY (uF el 9 o t v s (jy el (Tx.kv xs)))=([109,101,114,103,101,32]++s.data.toList)++iY (wj el t 0 (L.drop 0)):=by
  rw[show uF el 9 o t v s (jy el (Tx.kv xs))=mB [109,101,114,103,101]::.sp 32::rM s::wj el t 0 (if t=1 then (jy el (Tx.kv xs)).reverse else jy el (Tx.kv xs)) from rfl,hL,sS,kH,jn,lQ];simp
 rw[hx]at hT⊢;obtain⟨S1,e1,g1⟩:=jh (A:=⟨#[109,101,114,103,101,32]⟩) (a:=[109,101,114,103,101,32]) (B:=s) rfl (qd s).symm (by simp at hT⊢;omega);obtain⟨X,hX⟩:=jt (([109,101,114,103,101,32]++s.data.toList)++iY (wj el t 0 (L.drop 0)));rw[hX]at hT⊢;have HI:=iy (show ∃x,S1=lG x/\x++iY (wj el t 0 (L.drop 0))=X from⟨_,e1,hX⟩);have HL:=iy hL;have hN:=(hR.bounds).2.2.2;simp only[Tx.args]at hN;unfold qE vr;have ad:=iy hn;clear hx hX e1 hL hn;go_in;go_wp2_with fail;obtain⟨W1,ab,al,ak⟩:∃W1,W1=((w.alloc (.cells #[.slice eA el.length ec,.map (some mb)] 47)).alloc (.cells #[.int .i64 9,o,t,v,s,.slice A xs.length c] 73))/\ik w W1/\True:=⟨_,rfl,iR,trivial⟩;go_loopw [5,14] (fun v5 J wr=>∃(i:Nat) (S:ByteArray),i<=xs.length/\J=.int .i64 i/\v5=.string S/\Hid (∃x,S=lG x/\x++iY (wj el t i (L.drop i))=X)/\Hid (∃y,wr=W1.more y)) (fun _ J _=>xs.length-(intOf J).toNat)
 case atStart=>exact⟨0,S1,iu,rfl,rfl,HI,by show ∃y,_=W1.more y;rw[ab];exact jP _ _⟩
 case round=>
 obtain⟨i,S,hi,rfl,rfl,HX,HW⟩:=hrel;obtain⟨y0,rfl⟩:=HW.out;subst ab;clear HI g1 HW al ak;by_cases a1:i<xs.length
 ·obtain⟨x,ex,j⟩:=HX.out
  rw[MV el t iu,show (.sp 32::mf [40]::(wm el t (if t=1 then 1-(i:Int) else i)++.sp 32::mf [45,62]::.sp 32::((L.getD i Ar.none_).l++mf [41]::wj el t (i+1) (L.drop (i+1)))):List Pc)=[.sp 32,mf [40]]++(wm el t (if t=1 then 1-(i:Int) else i)++([.sp 32,mf [45,62],.sp 32]++((L.getD i Ar.none_).l++([mf [41]]++wj el t (i+1) (L.drop (i+1)))))) from rfl,iC,iC,iC,iC,iC]at j;obtain⟨vi,af,R,a8⟩:∃vi:Nat,vi<xs.length/\(if t=1 then 1-(i:Int) else i)=(vi:Int)/\L.getD i Ar.none_=pF (jy el (Tx.kv xs)) vi:=by
   rw[<- HL.out];by_cases I:t=1
   ·have h2:xs.length=2:=by rw[ad.out,I];rfl
    refine⟨1-i,iu,by rw[iG I];omega,?_⟩;rw[iG I];unfold pF;rw[wC,wC,List.getElem?_reverse (by rw[nD,nM];omega),nD,nM,h2]
   exact⟨i,a1,by rw[iV I],by rw[iV I];rfl⟩
  rw[R,a8]at j;have a7:nq el t vi=true:=by
   unfold nq;rw[iV ht2,<- ad.out];simp only[mT,decide_eq_true_eq];omega
  obtain⟨b,p,k0,o0,t0,v0,s0,A0,n0,c0,l0,q0,ai,aq,az,ay,ax,aw,av,au,aa,a',ag,a_,ae,an⟩:=r_ hR HA (((w.alloc (.cells #[.slice eA el.length ec,.map (some mb)] 47)).alloc (.cells #[.int .i64 9,o,t,v,s,.slice A xs.length c] 73)).more y0) (ij hw iR) vi af;have HC:=iy (fun U (hU:ik w U)=>Ak (mb:=mb) hS U (ij hw hU) t vi ht a7);rw[aa]at j;generalize iY (wm el t vi)=z at HC j;have a6:=nQ List.length j;simp[jn,jl,ja]at a6 hT;obtain⟨S2,e2,g2⟩:=jh (A:=⟨#[32,40]⟩) (a:=[32,40]) (B:=lG z) rfl rfl (by simp;omega);obtain⟨S3,e3,g3⟩:=jh (B:=⟨#[32,45,62,32]⟩) (b:=[32,45,62,32]) e2 rfl (by simp;omega);obtain⟨S4,e4,g4⟩:=jh (B:=lG l0) e3 rfl (by simp;omega);obtain⟨S5,e5,g5⟩:=jh (B:=⟨#[41]⟩) (b:=[41]) e4 rfl (by simp;omega);obtain⟨S6,e6,g6⟩:=jh ex e5 (by simp;omega);have HR:=iy (show ∃x,S6=lG x/\x++iY (wj el t (i+1) (L.drop (i+1)))=X from⟨_,e6,by rw[<- j];simp[jn,jl,ja]⟩);subst ai;clear aa ag j a6 e2 e3 e4 e5 e6 ex HX a8 a7 hR HA hS hT a' a_ an;have ah:(i:Int)<(xs.length:Int):=iu;by_cases I:t=1
  ·rw[iG I]at R
   subst I;have ao:(vi:Int)<(xs.length:Int):=iu;generalize xs.length=n9 at *
   have aj:¬((n9:Int)<=(vi:Int)):=iu;go_wp2_with fail;refine iE kp kp ?_;repeat (go_big_quiet_step ((first | (go_at_call 87;with_reducible exact mR (HC.out _ iR)) | (go_at_call 47;with_reducible exact mR (ae.out _ iR)))))
   refine wpQuiet_nil ?_;rintro _ ⟨y,rfl⟩;go_wp2;go_roundw
   case rel=>exact⟨_,S6,a1,by go_num,rfl,HR.out,jP _ _⟩
   case measure=>simp[intOf]<;>omega
  rw[iV I]at R;obtain rfl:vi=i:=iu;generalize xs.length=n9 at *
  have aj:¬((n9:Int)<=(vi:Int)):=iu;go_wp2_with fail;refine iE kp kp ?_;repeat (go_big_quiet_step ((first | (go_at_call 87;with_reducible exact mR (HC.out _ iR)) | (go_at_call 47;with_reducible exact mR (ae.out _ iR)))))
  refine wpQuiet_nil ?_;rintro _ ⟨y,rfl⟩;go_wp2;go_roundw
  case rel=>exact⟨_,S6,a1,by go_num,rfl,HR.out,jP _ _⟩
  case measure=>simp[intOf]<;>omega
 obtain rfl:i=xs.length:=iu;obtain⟨x,ex,j⟩:=HX;have ah:¬((xs.length:Int)<(xs.length:Int)):=iu;obtain rfl:S=lG X:=by
  rw[ex,<- j,List.drop_of_length_le iu,wj,ja,oV]
 go_wp2;go_ret;exact⟨rfl,jP _ _⟩
end
end
section
theorem Cr:(prog.info? 9).map (fun i=>(i.zero,i.size,i.bytes))=some (some (.string ByteArray.empty),1,16):=by kernel_rfl
def G0 (l:List ByteArray):List Value:=l.map Value.string
def Fh (L:List Ar):List ByteArray:=L.map fun a=>lG (iY a.l)
theorem wV (sep:List Pc):∀l:List (List Pc),iY (mq sep l)=Lib.join (l.map iY) (iY sep)
 |[]=>rfl
 |[a]=>by rw[mq,mJ,Lib.join_cons];simp[Lib.joinTail]
 |a::b::l=>by
  rw[mq,iC,iC,wV sep (b::l),mJ,mJ,Lib.join_cons,Lib.join_cons];simp[Lib.joinTail]
structure qi (w:World) (A:Option Addr) (c:Nat) (l:List ByteArray):Prop where
 cap:l.length<=c
 len:l.length<=140737488355328
 cells:l=[]\/∃g o,A=some ⟨g,o,none⟩/\g<w.heap.size/\∀j s,l[j]?=some s->w.cell? ⟨g,o+j,none⟩=some (.string s)
theorem qi.so {w:World} {A:Option Addr} {c n:Nat} {l:List ByteArray} {B:Nat} {t:TypeId} (own:w.ownsRow B t 1 (.slice A n c) n (G0 l)) (hn:l.length=n) (hl:n<=140737488355328):qi w A c l:=by
 subst hn;obtain⟨A',c',o,U,h2⟩:=ji own;cases o;refine⟨U,hl,?_⟩;rcases own.2 with⟨o,h0⟩ | ⟨g,cap,cur,o,hbg,hh,hnc,hcap,hsz,htk⟩
 ·exact .inl (B_ h0)
 injection o with hA
 subst hA;have I:g<w.heap.size:=by
  rcases qa g w.heap.size with J | J
  ·exact J
  rw[FF J]at hh;cases hh
 refine .inr ⟨g,0,rfl,I,fun j s R=>?_⟩;have:=own.cells (g:=g) rfl j (.string s) (by simp[G0,R]);rw[yb]at this;exact this
theorem qi.join {w:World} {A:Option Addr} {c:Nat} {l:List ByteArray} (h:qi w A c l) (sep:ByteArray) (hlen:(Lib.join (l.map (·.data.toList)) sep.data.toList).length<=140737488355328) (U:World) (hU:ik w U) :
  Calls prog 18 #[.slice A l.length c,sep] U fun e w'=>e=.returned (.string (lG (Lib.join (l.map (·.data.toList)) sep.data.toList)))/\∃y,w'=U.more y:=by
 rcases h.cells with rfl | ⟨g,o,rfl,hg,hc⟩
 ·refine (strings_Join_none A c sep U).mono ?_
  rintro e w' ⟨rfl,rfl⟩;exact⟨rfl,jP _ _⟩
 refine (strings_Join g o c l sep U (fun j x I=>?_) (rO hg hU.below.size) h.len h.cap hlen).mono ?_
 ·rw[show U.cell? ⟨g,o+j,none⟩=w.cell? ⟨g,o+j,none⟩ from hU.below.cell (p:=⟨g,o+j,none⟩) hg]
  exact hc j x I
 rintro e w' ⟨rfl,J⟩;exact⟨rfl,Below.uu J⟩
theorem zC (L:List Ar) (sep:List Pc):Lib.join ((Fh L).map (·.data.toList)) (iY sep)=iY (mq sep (L.map Ar.l)):=by
 rw[wV];congr 1;unfold Fh;rw[xZ,xZ];exact IL fun a _=>Cd _
theorem GB (L:List Ar) {k:Nat} (hk:k<L.length) {x:List UInt8} (hx:iY (pF L k).l=x):G0 (Fh (L.take k))++[.string (lG x)]=G0 (Fh (L.take (k+1))):=by
 have j:pF L k=L[k]:=by unfold pF;rw[wC,qn hk];rfl
 rw[<- hx,j,IX hk];unfold G0 Fh;rw[s_,s_];rfl
section
variable {w0:World} {eA:Option Addr} {ec:Nat} {el:List iW} {mb:Nat}
theorem OK {o t:Int} {s:ByteArray} {A:Option Addr} {c:Nat} {xs:List Tx} (hR:RX w0 (.mk 10 o t 0 s A c xs)) (HA:q_ el w0 (qE eA el.length ec mb) xs) (hm:xs.length<=1000000) (hT:(iY (uF el 10 o t 0 s (jy el (Tx.kv xs)))).length<=140737488355328) :
  oC 92 w0 (qE eA el.length ec mb) (vr 10 o t 0 s A xs.length c) (uF el 10 o t 0 s (jy el (Tx.kv xs))):=by
 intro w hw;have a8:=(hR.bounds).2.1;have hN:=(hR.bounds).2.2.2;simp only[Tx.args,Tx.cap]at hN a8;obtain⟨L,hL⟩:∃L,jy el (Tx.kv xs)=L:=⟨_,rfl⟩;have a':L.length=xs.length:=by rw[<- hL,nD,nM]
 rw[hL]at hT⊢;have hx:iY (uF el 10 o t 0 s L)=((s.data.toList++[40])++iY (mq qR (L.map Ar.l)))++[41]:=by
  rw[show uF el 10 o t 0 s L=rM s::mf [40]::(mq qR ((L.take L.length).map Ar.l)++mf [41]::[]) from rfl,pf,lQ,jl,iC,jl,ja];simp
 rw[hx]at hT⊢;have aa:=jr s;simp only[mo,xH]at hT;obtain⟨S1,e1,g1⟩:=jh (A:=s) (B:=⟨#[40]⟩) (b:=[40]) (qd s).symm rfl (by simp;omega);obtain⟨S2,e2,g2⟩:=jh (B:=lG (iY (mq qR (L.map Ar.l)))) e1 rfl (by simp;omega);obtain⟨S3,e3,g3⟩:=jh (B:=⟨#[41]⟩) (b:=[41]) e2 rfl (by simp;omega);rw[<- e3];have a7:(Lib.join ((Fh L).map (·.data.toList)) (⟨#[44,32]⟩:ByteArray).data.toList).length<=140737488355328:=by
  rw[show ((⟨#[44,32]⟩:ByteArray).data.toList)=iY qR from rfl,zC];omega
 have HJ:=iy a7;have HL:=iy hL;have j:=iB a';unfold qE vr;clear hL a' hT e1 e2 e3 hx a7 aa;go_in;go_wp2_with fail;obtain⟨W1,a_⟩:∃W1,W1=((w.alloc (.cells #[.slice eA el.length ec,.map (some mb)] 47)).alloc (.cells #[.int .i64 10,o,t,.int .i64 0,s,.slice A xs.length c] 73)):=⟨_,rfl⟩;go_loopw [6,21] (fun v i wr=>∃(k:Nat) (A':Option Addr) (R:Nat),k<=xs.length/\i=.int .i64 k/\v=.slice A' k R/\Hid (wr.ownsRow W1.heap.size 9 1 (.slice A' k R) k (G0 (Fh (L.take k))))/\Hid (∃y,wr=W1.more y)) (fun _ i _=>xs.length-(intOf i).toNat)
 case atStart=>exact⟨0,none,0,by omega,rfl,rfl,FL _ _ _ _,by show ∃y,_=W1.more y;rw[a_];exact jP _ _⟩
 case round=>
 obtain⟨k,A',R,hk,rfl,rfl,HO,HW⟩:=hrel;obtain⟨y0,rfl⟩:=HW.out;subst a_;clear HW;by_cases a6:k<xs.length
 ·obtain⟨b,p,k0,o0,t0,v0,s0,A0,n0,c0,l0,q0,ae,aj,ar,aq,ao,an,al,ak,I,ai,ab,a1,ah,ag⟩:=r_ hR HA (((w.alloc (.cells #[.slice eA el.length ec,.map (some mb)] 47)).alloc (.cells #[.int .i64 10,o,t,.int .i64 0,s,.slice A xs.length c] 73)).more y0) (ij hw inferInstance) k a6
  subst ae;have ad:(k:Int)<(xs.length:Int):=by omega
  rw[HL.out]at I;have HT:=iB (GB L (by rw[j.out];exact a6) I);clear hR HA ab a1 ag I;go_wp2_with fail;refine (ah _ inferInstance).mono ?_;rintro e V ⟨rfl,hy⟩;have aV:ik ((w.alloc (.cells #[.slice eA el.length ec,.map (some mb)] 47)).alloc (.cells #[.int .i64 10,o,t,.int .i64 0,s,.slice (some ⟨b,p,none⟩) xs.length c] 73)) V:=ny hy inferInstance;have af:Hid (V.ownsRow ((w.alloc (.cells #[.slice eA el.length ec,.map (some mb)] 47)).alloc (.cells #[.int .i64 10,o,t,.int .i64 0,s,.slice (some ⟨b,p,none⟩) xs.length c] 73)).heap.size 9 1 (.slice A' k R) k (G0 (Fh (L.take k)))):=nF HO (ny hy inferInstance);clear hy HO;go_wp2_with (at_builtin;refine mh (w0:=(w.alloc (.cells #[.slice eA el.length ec,.map (some mb)] 47)).alloc (.cells #[.int .i64 10,o,t,.int .i64 0,s,.slice (some ⟨b,p,none⟩) xs.length c] 73)) V rfl (.tmp 25) (.tmp 29) 55 rfl 9 _ 16 underlying55 Cr rfl (.slice A' k R) k _ (.string (lG l0)) rfl af rfl rfl (by omega) (by omega) ?_;intro v1 w4 hown1 haft1;replace hown1:=iB hown1)
  obtain⟨A1,c1,rfl,_,_⟩:=ji hown1.out;go_roundw
  case rel=>exact⟨k+1,A1,c1,iu,by go_num,rfl,by show World.ownsRow _ _ _ _ _ _ _;rw[<- HT.out];exact hown1.out,jP _ _⟩
  case measure=>simp[intOf];omega
 obtain rfl:k=xs.length:=iu;have ad:¬((xs.length:Int)<(xs.length:Int)):=iu;have HS:=iy (show qi (((w.alloc (.cells #[.slice eA el.length ec,.map (some mb)] 47)).alloc (.cells #[.int .i64 10,o,t,.int .i64 0,s,.slice A xs.length c] 73)).more y0) A' R (Fh L) from by
  have:=qi.so HO (by unfold Fh;rw[pE,Fi,j.out];omega) iu;rwa [Dn (by rw[j.out];omega)]at this)
 have HC:=iy (fun U hU=>HS.out.join ⟨#[44,32]⟩ HJ.out U hU);rw[show (Fh L).length=xs.length by unfold Fh;rw[pE,j.out],show ((⟨#[44,32]⟩:ByteArray).data.toList)=iY qR from rfl,zC]at HC;generalize lG (iY (mq qR (L.map Ar.l)))=J at HC g2;clear HO HS hR HA HJ HL j;generalize xs.length=n9 at *
 go_wp2_with fail;refine iE kp kp ?_;repeat (go_big_quiet_step ((go_at_call 18;with_reducible exact mR (HC.out _ iR))))
 refine wpQuiet_nil ?_;rintro _ ⟨y,rfl⟩;go_wp2;go_ret;exact⟨rfl,jP _ _⟩
theorem O0 {o t:Int} {s:ByteArray} {A:Option Addr} {c:Nat} {xs:List Tx} (hR:RX w0 (.mk 10 o t 1 s A c xs)) (HA:q_ el w0 (qE eA el.length ec mb) xs) (h1n:1<=xs.length) (hm:xs.length<=1000000) (hT:(iY (uF el 10 o t 1 s (jy el (Tx.kv xs)))).length<=140737488355328) :
  oC 92 w0 (qE eA el.length ec mb) (vr 10 o t 1 s A xs.length c) (uF el 10 o t 1 s (jy el (Tx.kv xs))):=by
 intro w hw;have a8:=(hR.bounds).2.1;have hN:=(hR.bounds).2.2.2;simp only[Tx.args,Tx.cap]at hN a8;obtain⟨L,hL⟩:∃L,jy el (Tx.kv xs)=L:=⟨_,rfl⟩;have aa:L.length=xs.length:=by rw[<- hL,nD,nM]
 rw[hL]at hT⊢;obtain⟨m,a6⟩:∃m,xs.length=m+1:=⟨xs.length-1,by omega⟩;obtain⟨bz,R,kz,oz,tz,vz,sz,Az,nz,cz,lz,qz,aj,ax,aI,aH,aG,aF,aE,aD,ah,av,j,au,aq,al⟩:=r_ hR HA w hw m (by omega);rw[hL]at j;have hx:iY (uF el 10 o t 1 s L)=((((s.data.toList++[40])++iY (mq qR ((L.take m).map Ar.l)))++[41]))++([32,101,118,101,114,121,32]++qz):=by
  rw[show uF el 10 o t 1 s L=rM s::mf [40]::(mq qR ((L.take (L.length-1)).map Ar.l)++mf [41]::(.sp 32::mB [101,118,101,114,121]::.sp 32::kM (pF L (L.length-1)))) from rfl,show L.length-1=m by omega,lQ,jl,iC,jl,jn,kH,jn,j];simp
 obtain⟨M,hM⟩:∃M,L.take m=M:=⟨_,rfl⟩;have a':M.length=m:=by rw[<- hM,Fi];omega
 rw[hM]at hx;rw[hx]at hT⊢;rw[a6];have az:IntKind.i64.wrap ((m:Int)+1-1)=m:=(IntWalk.i64_in ((m:Int)+1-1) (by omega)).trans (by omega);have ay:=IntWalk.i64_in (m:Int) iu;have aA:(m:Int)<=(c:Int):=iu;have ad:=iB a';have ab:=iB hM;have HM:=iB a6;have af:=jr s;simp only[mo,xH]at hT;obtain⟨S1,e1,g1⟩:=jh (A:=s) (B:=⟨#[40]⟩) (b:=[40]) (qd s).symm rfl (by simp;omega);obtain⟨S2,e2,g2⟩:=jh (B:=lG (iY (mq qR (M.map Ar.l)))) e1 rfl (by simp;omega);obtain⟨S3,e3,g3⟩:=jh (B:=⟨#[41]⟩) (b:=[41]) e2 rfl (by simp;omega);obtain⟨S4,e4,g4⟩:=jh (A:=⟨#[32,101,118,101,114,121,32]⟩) (a:=[32,101,118,101,114,121,32]) (B:=lG qz) rfl rfl (by simp;omega);obtain⟨S5,e5,g5⟩:=jh e3 e4 (by simp;omega);rw[<- e5];have a7:(Lib.join ((Fh M).map (·.data.toList)) (⟨#[44,32]⟩:ByteArray).data.toList).length<=140737488355328:=by
  rw[show ((⟨#[44,32]⟩:ByteArray).data.toList)=iY qR from rfl,zC];omega
 have HJ:=iB a7;have HL:=iB hL;have ae:=iB aa;unfold qE vr;subst aj;clear hL aa hT e1 e2 e3 e4 e5 hx a7 af ah j hM a' aq;go_in;go_wp2_with fail;obtain⟨W1,a_⟩:∃W1,W1=((w.alloc (.cells #[.slice eA el.length ec,.map (some mb)] 47)).alloc (.cells #[.int .i64 10,o,t,.int .i64 1,s,.slice (some ⟨bz,R,none⟩) (m+1) c] 73)):=⟨_,rfl⟩;go_loopw [6,21] (fun v i wr=>∃(k:Nat) (A':Option Addr) (c':Nat),k<=m/\i=.int .i64 k/\v=.slice A' k c'/\Hid (wr.ownsRow W1.heap.size 9 1 (.slice A' k c') k (G0 (Fh (L.take k))))/\Hid (∃y,wr=W1.more y)) (fun _ i _=>m-(intOf i).toNat)
 case atStart=>exact⟨0,none,0,by omega,rfl,rfl,FL _ _ _ _,by show ∃y,_=W1.more y;rw[a_];exact jP _ _⟩
 case round=>
 obtain⟨k,A',c',hk,rfl,rfl,HO,HW⟩:=hrel;obtain⟨y0,rfl⟩:=HW.out;subst a_;clear HW;by_cases aB:k<m
 ·obtain⟨b,p,k0,o0,t0,v0,s0,A0,n0,c0,l0,q0,ak,aC,aO,aN,aM,aL,aK,aJ,I,aw,ag,a1,ar,ao⟩:=r_ hR HA (((w.alloc (.cells #[.slice eA el.length ec,.map (some mb)] 47)).alloc (.cells #[.int .i64 10,o,t,.int .i64 1,s,.slice (some ⟨bz,R,none⟩) (m+1) c] 73)).more y0) (ij hw inferInstance) k (by have:=HM.out;omega)
  cases ak;have ai:(k:Int)<(m:Int):=by omega
  rw[HL.out]at I;have HT:=iB (GB L (by rw[ae.out,HM.out];omega) I);clear hR HA ag a1 ao I;go_wp2_with fail;refine (ar _ inferInstance).mono ?_;rintro e V ⟨rfl,hy⟩;have aV:ik ((w.alloc (.cells #[.slice eA el.length ec,.map (some mb)] 47)).alloc (.cells #[.int .i64 10,o,t,.int .i64 1,s,.slice (some ⟨bz,R,none⟩) (m+1) c] 73)) V:=ny hy inferInstance;have an:Hid (V.ownsRow ((w.alloc (.cells #[.slice eA el.length ec,.map (some mb)] 47)).alloc (.cells #[.int .i64 10,o,t,.int .i64 1,s,.slice (some ⟨bz,R,none⟩) (m+1) c] 73)).heap.size 9 1 (.slice A' k c') k (G0 (Fh (L.take k)))):=nF HO.out (ny hy inferInstance);clear hy HO;go_wp2_with (at_builtin;refine mh (w0:=(w.alloc (.cells #[.slice eA el.length ec,.map (some mb)] 47)).alloc (.cells #[.int .i64 10,o,t,.int .i64 1,s,.slice (some ⟨bz,R,none⟩) (m+1) c] 73)) V rfl (.tmp 25) (.tmp 29) 55 rfl 9 _ 16 underlying55 Cr rfl (.slice A' k c') k _ (.string (lG l0)) rfl an.out rfl rfl (by omega) (by omega) ?_;intro v1 w4 hown1 haft1;replace hown1:=iB hown1)
  obtain⟨A1,c1,rfl,_,_⟩:=ji hown1.out;go_roundw
  case rel=>exact⟨k+1,A1,c1,iu,by go_num,rfl,by show World.ownsRow _ _ _ _ _ _ _;rw[<- HT.out];exact hown1.out,jP _ _⟩
  case measure=>simp[intOf];omega
 obtain rfl:k=m:=iu;have ai:¬((k:Int)<(k:Int)):=iu;have HS:=iy (show qi (((w.alloc (.cells #[.slice eA el.length ec,.map (some mb)] 47)).alloc (.cells #[.int .i64 10,o,t,.int .i64 1,s,.slice (some ⟨bz,R,none⟩) (k+1) c] 73)).more y0) A' c' (Fh M) from by
  have:=qi.so HO.out (by unfold Fh;rw[pE,ab.out,ad.out]) iu;rwa [ab.out]at this)
 have HC:=iy (fun U hU=>HS.out.join ⟨#[44,32]⟩ HJ.out U hU);rw[show (Fh M).length=k by unfold Fh;rw[pE,ad.out],show ((⟨#[44,32]⟩:ByteArray).data.toList)=iY qR from rfl,zC]at HC;generalize lG (iY (mq qR (M.map Ar.l)))=J at HC g2;clear HO HS hR HA HJ HL ae;go_wp2_with fail;refine iE kp kp ?_;repeat (go_big_quiet_step ((go_at_call 18;with_reducible exact mR (HC.out _ iR))))
 refine wpQuiet_nil ?_;rintro _ ⟨y,rfl⟩;go_wp2_with fail;refine iE kp kp ?_;repeat (go_big_quiet_step ((go_at_call 89;with_reducible exact mR (al.out _ iR))))
 refine wpQuiet_nil ?_;rintro _ ⟨y,rfl⟩;go_wp2;go_ret;exact⟨rfl,jP _ _⟩
end
end
section
section
variable {w0:World} {eA:Option Addr} {ec:Nat} {el:List iW} {mb:Nat}
theorem yJ (hS:ID w0 eA ec el) (HS:uH w0 mb 14 GG) (hT:mL el):∀(N:Nat) (x:Tx),N<=400->mK x.er<=N->RX w0 x->GE el x.er ->
  oC 47 w0 (qE eA el.length ec mb) (S9 x) (kX el x.er)
 |0,.mk k o t v s A c xs,_,hsz,_,_=>by rw[Tx.er,mK]at hsz;omega
 |N+1,.mk k o t v s A c xs,hN,hsz,hR,hg=>by
  have hlen:=yU hT _ hg;rw[Tx.er]at hg hsz hlen⊢;have hlen9:(iY (kX el (.mk k o t v s (Tx.kv xs)))).length<=80000:=iu;rw[GE,nM]at hg;rw[mK]at hsz;rw[kX]at hlen9⊢;have HA:q_ el w0 (qE eA el.length ec mb) xs:=fun i a hi=>by
   have h1:(Tx.kv xs)[i]?=some a.er:=by rw[EK,hi];rfl
   have h2:=F' h1;have h3:=hg.2.get h1;have h4:=yU hT _ h3;exact⟨yJ hS HS hT N a (by omega) (by omega) (hR.all a (om hi)) h3,by omega⟩
  obtain⟨hn64,⟨rfl,rfl,hn,rfl,ht,hv⟩ | ⟨rfl,rfl,rfl,rfl,hn,hs⟩ | ⟨rfl,ho,rfl,rfl,rfl⟩ | ⟨hk,rfl,rfl,rfl,rfl⟩ | ⟨rfl,rfl,hn,ht2,ht,hv,hs⟩ | ⟨rfl,rfl,rfl,ht2,ht,hn,h1n,hs⟩ | ⟨rfl,rfl,rfl,hv,hs⟩ | ⟨rfl,rfl,rfl,rfl,hn,hs⟩⟩:=hg.1
  ·exact PU hS ht hv
  ·exact Ou
  ·refine CM (.inl rfl) ?_
   rw[iG rfl];rcases ho with⟨h1,h2,hn⟩ | ⟨h1,h2,hn⟩
   ·rcases (by omega:o=1\/o=2) with rfl | rfl
    ·exact GV hR hn HA
    exact Gg hR hn HA
   exact GS ⟨h1,h2⟩ hR hn HA HS
  ·rcases hk with⟨rfl,hn⟩ | ⟨rfl,hn⟩ | ⟨rfl,hn⟩ | ⟨rfl,hn⟩
   ·exact PG hR hn HA
   ·exact Pr hR hn HA
   ·exact O_ hR hn HA
   exact OW hR hn HA
  ·have:=jM hs
   have:=xw hT hv;exact OY hR hn HA hS ht hv iu iu
  ·refine CM (.inr (.inl rfl)) ?_
   rw[iV iI,iG rfl];exact KV hR HA hS ht ht2 hn iu
  ·refine CM (.inr (.inr rfl)) ?_
   rw[iV iI,iV iI];rcases hv with rfl | ⟨rfl,hn⟩
   ·exact OK hR HA iu iu
   exact O0 hR HA hn iu iu
  have:=AW hs;exact MA iu
theorem vh (hS:ID w0 eA ec el) (HS:uH w0 mb 14 GG) (hT:mL el) {x:Tx} (hR:RX w0 x) (h:qk el x=0) :
  oC 47 w0 (qE eA el.length ec mb) (S9 x) (kX el x.er)/\(iY (kX el x.er)).length<=80000:=by
 obtain⟨o,j⟩:=Ki h;rw[zg]at j;have I:=yU hT _ o;exact⟨yJ hS HS hT 400 x (js _) j hR o,by omega⟩
end
end
end Go.Proofs.YtnigblndonocfaaGreatDoor
