/- A part of the proof. -/
import Derived.Test.YtnigblndonocfaaGreatDoorWNd
set_option linter.unusedVariables false
set_option linter.unusedSimpArgs false
namespace Go.Proofs.YtnigblndonocfaaGreatDoor
set_option maxRecDepth 100000
set_option maxHeartbeats 6400000
open Go.RowKit Go.BigFrame
section
section
variable {P:Program} {f:FuncId} {args:Array Value} {wz w w6:World} {Q:Ending->World->Prop} {nd q E E' X T R Rq:Int} {g:Nat}
theorem mN (C:Calls P f args wz fun e w'=>PE w6 nd q E' e w') (hF:E'=E) (HV:Hid (X=jD E T)) (HS:Hid (X≠0->R=X)) (HQ:Hid (X≠0->Rq=q)) (b:xx g w w6)
  (hz:∀w7,Hid (X=T)->ik w6 w7->Q (.returned (.tuple #[])) w7)
  (k:∀w7 F,(∀A n c,ND w g A n c nd R Rq (uw nd q F) w7)->Q (uw nd q F) w7:=by intro _ _ HP;unfold uw;go_wp2_with fail;exact⟨rfl,HP _ _ _⟩):Calls P f args wz Q:=
 mS C hF HV (fun w7 hE hX c=>k w7 E (fun A n c_=>by rw[HS.out (by rw[hX];exact hE),hX,HQ.out (by rw[hX];exact hE)];exact ND.RD hE (b.trans (ni c)))) (fun w7 _=>hz w7)
theorem QF (C:Calls P f args wz fun e w'=>PE w6 nd q E' e w') (hF:E'=E) (HV:Hid (X=jD E T)) (HS:Hid (X≠0->R=X)) (HQ:Hid (X≠0->Rq=q)) (b:xx g w w6) (hE:E≠0:=by decide)
  (k:∀w7 F,(∀A n c,ND w g A n c nd R Rq (uw nd q F) w7)->Q (uw nd q F) w7:=by intro _ _ HP;unfold uw;go_wp2_with fail;exact⟨rfl,HP _ _ _⟩):Calls P f args wz Q:=
 mS C hF HV (fun w7 hE hX c=>k w7 E (fun A n c_=>by rw[HS.out (by rw[hX];exact hE),hX,HQ.out (by rw[hX];exact hE)];exact ND.RD hE (b.trans (ni c)))) (fun _ h=>absurd h hE)
end
end
section
open Go.Proofs.Tryz
theorem LS {w00:World} {g:Nat} {eA:Option Addr} {ec:Nat} {el:List iW} (hen:ir 2 sM w00 ⟨eA,ec,el⟩) {nm:ByteArray} {inA:Option Addr} {inc:Nat} {in_:List iO} {ouA:Option Addr} {ouc:Nat} {ou:List iO} {loA:Option Addr} {loc:Nat} {lo:List iO} {eqA:Option Addr} {eqc:Nat} {eq:List oX} {auA:Option Addr} {auc:Nat} {au:List AuT} {asA:Option Addr} {asc:Nat} {as_:List Tx} {enA:Option Addr} {enc:Nat} {en_:List Tx} {b p:Nat} (hy:Gy True w00 b p ⟨nm,⟨inA,inc,in_⟩,⟨ouA,ouc,ou⟩,⟨loA,loc,lo⟩,⟨eqA,eqc,eq⟩,⟨auA,auc,au⟩,⟨asA,asc,as_⟩,⟨enA,enc,en_⟩⟩) {i n0 q0:Int} (w:World) (hw:ik w00 w) (hg:w00.heap.size<=g) (h:pK w g eA el.length ec n0 q0) :
  Calls prog 41 #[.pointer (some ⟨g,0,none⟩),.int .i64 i,.agg #[.string nm,.slice inA in_.length inc,.slice ouA ou.length ouc,.slice loA lo.length loc,.slice eqA eq.length eqc,.slice auA au.length auc,.slice asA as_.length asc,.slice enA en_.length enc]] w fun e w'=>ND w g eA el.length ec i (mY el ⟨nm,⟨inA,inc,in_⟩,⟨ouA,ouc,ou⟩,⟨loA,loc,lo⟩,⟨eqA,eqc,eq⟩,⟨auA,auc,au⟩,⟨asA,asc,as_⟩,⟨enA,enc,en_⟩⟩) (GJ el ⟨nm,⟨inA,inc,in_⟩,⟨ouA,ouc,ou⟩,⟨loA,loc,lo⟩,⟨eqA,eqc,eq⟩,⟨auA,auc,au⟩,⟨asA,asc,as_⟩,⟨enA,enc,en_⟩⟩) e w':=by
 obtain⟨R,hR⟩:∃R,mY el ⟨nm,⟨inA,inc,in_⟩,⟨ouA,ouc,ou⟩,⟨loA,loc,lo⟩,⟨eqA,eqc,eq⟩,⟨auA,auc,au⟩,⟨asA,asc,as_⟩,⟨enA,enc,en_⟩⟩=R:=⟨_,rfl⟩;obtain⟨Rq,bI⟩:∃R,GJ el ⟨nm,⟨inA,inc,in_⟩,⟨ouA,ouc,ou⟩,⟨loA,loc,lo⟩,⟨eqA,eqc,eq⟩,⟨auA,auc,au⟩,⟨asA,asc,as_⟩,⟨enA,enc,en_⟩⟩=R:=⟨_,rfl⟩;obtain⟨X1,b_⟩:∃X,Ek el ⟨nm,⟨inA,inc,in_⟩,⟨ouA,ouc,ou⟩,⟨loA,loc,lo⟩,⟨eqA,eqc,eq⟩,⟨auA,auc,au⟩,⟨asA,asc,as_⟩,⟨enA,enc,en_⟩⟩=X:=⟨_,rfl⟩;have a6:Hid (R=jD X1 (jD (iw (rN el) eq) (jD (iw (rK el 0) au) (jD (iw (qk el) as_) (jD (iw (qk el) en_) 0))))):=by
  show _=_
  rw[<- hR,<- b_,kE];rfl
 have a':Hid (Rq=if X1=0 then wu (rN el) eq 0 else -1):=by
  show _=_
  rw[<- bI,<- b_];rfl
 have I:Hid (X1=jD (jA nm) (jD (iX (decide ((in_.length:Int)<=64)&&(decide ((ou.length:Int)<=64)&&(decide ((lo.length:Int)<=256)&&(decide ((eq.length:Int)<=256)&&(decide ((au.length:Int)<=8)&&(decide ((as_.length:Int)<=8)&&(decide ((en_.length:Int)<=8)))))))) 3) (jD (iX (decide ((0:Int)<(ou.length:Int))) 8) (jD (iw (jN el true) in_) (jD (iw (jN el true) ou) (jD (iw (jN el false) lo) 0)))))):=by
  show _=_
  rw[<- b_,kE];rfl
 have J:Hid (X1≠0->R=X1):=fun h=>a6.trans (lR h)
 have a7:Hid (X1≠0->Rq=-1):=fun h=>a'.trans (iV h)
 rw[hR,bI];have br:=iB hen;have HY:=iB hy;have aU:in_.length<=140737488355328/\ou.length<=140737488355328/\lo.length<=140737488355328/\eq.length<=140737488355328/\au.length<=140737488355328/\as_.length<=140737488355328/\en_.length<=140737488355328:=⟨hy.r1.len,hy.r2.len,hy.r3.len,hy.r4.len,hy.r5.len,hy.r6.len,hy.r7.len⟩;obtain⟨cQ,cP,cO,b8,cN,cM,cL⟩:=aU;have cg:nm.size<=140737488355328:=hy.nm;obtain⟨gn,bA⟩:∃g,w.heap.size=g:=⟨_,rfl⟩;obtain⟨W1,cA,a1,bn,bl⟩:∃W,w.alloc (.cells #[.string nm,.slice inA in_.length inc,.slice ouA ou.length ouc,.slice loA lo.length loc,.slice eqA eq.length eqc,.slice auA au.length auc,.slice asA as_.length asc,.slice enA en_.length enc] 65)=W/\ik w W/\iP W gn 65 #[.string nm,.slice inA in_.length inc,.slice ouA ou.length ouc,.slice loA lo.length loc,.slice eqA eq.length eqc,.slice auA au.length auc,.slice asA as_.length asc,.slice enA en_.length enc]/\pK W g eA el.length ec n0 q0:=⟨_,rfl,inferInstance,by rw[<- bA];exact jC _ _ _,pK.here h _⟩;have ch:gn≠g:=by have:=iP.lt h;omega
 obtain⟨W2,cz,B2,a8⟩:∃W,(W1.setCell ⟨g,1,none⟩ (.int .i64 i)).setCell ⟨g,2,none⟩ (.int .i64 (-1))=W/\xx g W1 W/\pK W g eA el.length ec i (-1):=⟨_,rfl,(xx.set _ _ _).trans (xx.set _ _ _),(Hg (Hg bl 1 _) 2 _)⟩;have B1:xx g w W2:=(ni a1).trans B2;have ai:ik w00 W2:=B1.after hw hg;have bh:Hid (∀U,xx g W2 U->ik w00 U/\xx g w U/\U.cell? ⟨gn,0,none⟩=some (.string nm)/\U.cell? ⟨gn,1,none⟩=some (.slice inA in_.length inc)/\U.cell? ⟨gn,2,none⟩=some (.slice ouA ou.length ouc)/\U.cell? ⟨gn,3,none⟩=some (.slice loA lo.length loc)/\U.cell? ⟨gn,4,none⟩=some (.slice eqA eq.length eqc)/\U.cell? ⟨gn,5,none⟩=some (.slice auA au.length auc)/\U.cell? ⟨gn,6,none⟩=some (.slice asA as_.length asc)/\U.cell? ⟨gn,7,none⟩=some (.slice enA en_.length enc)/\Le (gn+1) U):=fun U hU=>by
  have y0:=(B2.trans hU).blk bn ch;exact⟨hU.after ai hg,B1.trans hU,by rw[y0.cell];rfl,by rw[y0.cell];rfl,by rw[y0.cell];rfl,by rw[y0.cell];rfl,by rw[y0.cell];rfl,by rw[y0.cell];rfl,by rw[y0.cell];rfl,by rw[y0.cell];rfl,y0.is_le⟩
 have HK:Hid (∀U,ik W2 U->U.cell? ⟨gn,0,none⟩=some (.string nm)/\U.cell? ⟨gn,1,none⟩=some (.slice inA in_.length inc)/\U.cell? ⟨gn,2,none⟩=some (.slice ouA ou.length ouc)/\U.cell? ⟨gn,3,none⟩=some (.slice loA lo.length loc)/\U.cell? ⟨gn,4,none⟩=some (.slice eqA eq.length eqc)/\U.cell? ⟨gn,5,none⟩=some (.slice auA au.length auc)/\U.cell? ⟨gn,6,none⟩=some (.slice asA as_.length asc)/\U.cell? ⟨gn,7,none⟩=some (.slice enA en_.length enc)/\Le (gn+1) U/\U.cell? ⟨g,0,none⟩=some (.slice eA el.length ec)/\Le (g+1) U):=fun U hU=>by
  obtain⟨_,_,x0,x1,x2,x3,x4,x5,x6,x7,x8⟩:=bh U (ni hU);exact⟨x0,x1,x2,x3,x4,x5,x6,x7,x8,(a8.here U (k:=hU)).fields.1,(a8.here U (k:=hU)).fields.2.2.2⟩
 have l1:Le (g+1) W1:=bl.is_le;have f1:=nL bl 1;have f2:=nL bl 2;obtain⟨_,p1,p2,_⟩:=pK.fields bl;have aF:=br.enums W2 (k:=ai);have HI:Hid (∀s:ByteArray,s.size<=140737488355328->∀U,ik W2 U->Calls prog 74 #[.pointer (some ⟨g,0,none⟩),.string s] U fun e w'=>PE U i (-1) (jA s) e w'):=fun s hs U hU=>tT a8 s hs U hU
 have HM:Hid (∀b e,e≠0->∀U,ik W2 U->Calls prog 39 #[.pointer (some ⟨g,0,none⟩),.bool b,.int .i64 e] U fun e' w'=>PE U i (-1) (iX b e) e' w'):=fun b e he U hU=>rC (a8.here U (k:=hU)) b e he
 have HD:Hid (∀(A:Option Addr) (c:Nat) (l:List iO),ir 3 jG W2 ⟨A,c,l⟩->∀b U,ik W2 U->Calls prog 75 #[.pointer (some ⟨g,0,none⟩),.slice A l.length c,.bool b] U fun e w'=>PE U i (-1) (iw (jN el b) l) e w'):=fun A c l hh b U hU=>Cz (en:=⟨eA,ec,el⟩) a8 aF ⟨A,c,l⟩ hh b U hU
 obtain⟨k0,k1,k2,k3,k4,k5,k6,k7,kn,l0,ll⟩:=HK W2 (iq _);go_in;go_wp2_with fail;try rw[cA]
 try rw[cz]
 try rw[bA]
 refine mN (HI nm cg W2 (ij (iq W2) (iq W2))) rfl I J a7 (B1.trans (ni (iq W2))) ?_;clear I;intro w2 I bR;have d2:ik W2 w2:=ij (iq W2) bR;have b2:ik W2 w2:=ij (iq W2) bR;obtain⟨k0,k1,k2,k3,k4,k5,k6,k7,kn,l0,ll⟩:=HK w2 (b2);by_cases aa:(in_.length:Int)<=64;rotate_left
 ·replace I:Hid (X1=jD (iX false 3) (jD (iX (decide ((0:Int)<(ou.length:Int))) 8) (jD (iw (jN el true) in_) (jD (iw (jN el true) ou) (jD (iw (jN el false) lo) 0))))):=by show _=_;rw[I.out,decide_eq_false aa];simp only[qu,qT]
  have cq:¬in_.length<=64:=by omega
  have ad:¬max (in_.length:Int) (ou.length:Int)<=64:=by omega
  go_wp2_with fail;exact QF (E:=iX false 3) (HM _ 3 (by decide) w2 (ij (iq W2) d2)) (by first | rfl | exact nQ (fun b=>iX b 3) (decide_eq_false (by omega))) I J a7 (B1.trans (ni d2))
 have cq:in_.length<=64:=by omega
 by_cases ae:(ou.length:Int)<=64;rotate_left
 ·replace I:Hid (X1=jD (iX false 3) (jD (iX (decide ((0:Int)<(ou.length:Int))) 8) (jD (iw (jN el true) in_) (jD (iw (jN el true) ou) (jD (iw (jN el false) lo) 0))))):=by show _=_;rw[I.out,lp aa,decide_eq_false ae];simp only[qu,qT]
  have cp:¬ou.length<=64:=by omega
  have ad:¬max (in_.length:Int) (ou.length:Int)<=64:=by omega
  go_wp2_with fail;exact QF (E:=iX false 3) (HM _ 3 (by decide) w2 (ij (iq W2) d2)) (by first | rfl | exact nQ (fun b=>iX b 3) (decide_eq_false (by omega))) I J a7 (B1.trans (ni d2))
 have cp:ou.length<=64:=by omega
 by_cases aq:(lo.length:Int)<=256;rotate_left
 ·replace I:Hid (X1=jD (iX false 3) (jD (iX (decide ((0:Int)<(ou.length:Int))) 8) (jD (iw (jN el true) in_) (jD (iw (jN el true) ou) (jD (iw (jN el false) lo) 0))))):=by show _=_;rw[I.out,lp aa,lp ae,decide_eq_false aq];simp only[qu,qT]
  have cn:¬lo.length<=256:=by omega
  have ad:max (in_.length:Int) (ou.length:Int)<=64:=by omega
  go_wp2_with fail;exact QF (E:=iX false 3) (HM _ 3 (by decide) w2 (ij (iq W2) d2)) (by first | rfl | exact nQ (fun b=>iX b 3) (decide_eq_false (by omega))) I J a7 (B1.trans (ni d2))
 have cn:lo.length<=256:=by omega
 by_cases ay:(eq.length:Int)<=256;rotate_left
 ·replace I:Hid (X1=jD (iX false 3) (jD (iX (decide ((0:Int)<(ou.length:Int))) 8) (jD (iw (jN el true) in_) (jD (iw (jN el true) ou) (jD (iw (jN el false) lo) 0))))):=by show _=_;rw[I.out,lp aa,lp ae,lp aq,decide_eq_false ay];simp only[qu,qT]
  have cm:¬eq.length<=256:=by omega
  have ad:max (in_.length:Int) (ou.length:Int)<=64:=by omega
  go_wp2_with fail;exact QF (E:=iX false 3) (HM _ 3 (by decide) w2 (ij (iq W2) d2)) (by first | rfl | exact nQ (fun b=>iX b 3) (decide_eq_false (by omega))) I J a7 (B1.trans (ni d2))
 have cm:eq.length<=256:=by omega
 by_cases aG:(au.length:Int)<=8;rotate_left
 ·replace I:Hid (X1=jD (iX false 3) (jD (iX (decide ((0:Int)<(ou.length:Int))) 8) (jD (iw (jN el true) in_) (jD (iw (jN el true) ou) (jD (iw (jN el false) lo) 0))))):=by show _=_;rw[I.out,lp aa,lp ae,lp aq,lp ay,decide_eq_false aG];simp only[qu,qT]
  have cl:¬au.length<=8:=by omega
  have ad:max (in_.length:Int) (ou.length:Int)<=64:=by omega
  go_wp2_with fail;exact QF (E:=iX false 3) (HM _ 3 (by decide) w2 (ij (iq W2) d2)) (by first | rfl | exact nQ (fun b=>iX b 3) (decide_eq_false (by omega))) I J a7 (B1.trans (ni d2))
 have cl:au.length<=8:=by omega
 by_cases b9:(as_.length:Int)<=8;rotate_left
 ·replace I:Hid (X1=jD (iX false 3) (jD (iX (decide ((0:Int)<(ou.length:Int))) 8) (jD (iw (jN el true) in_) (jD (iw (jN el true) ou) (jD (iw (jN el false) lo) 0))))):=by show _=_;rw[I.out,lp aa,lp ae,lp aq,lp ay,lp aG,decide_eq_false b9];simp only[qu,qT]
  have ck:¬as_.length<=8:=by omega
  have ad:max (in_.length:Int) (ou.length:Int)<=64:=by omega
  go_wp2_with fail;exact QF (E:=iX false 3) (HM _ 3 (by decide) w2 (ij (iq W2) d2)) (by first | rfl | exact nQ (fun b=>iX b 3) (decide_eq_false (by omega))) I J a7 (B1.trans (ni d2))
 have ck:as_.length<=8:=by omega
 by_cases bE:(en_.length:Int)<=8;rotate_left
 ·replace I:Hid (X1=jD (iX false 3) (jD (iX (decide ((0:Int)<(ou.length:Int))) 8) (jD (iw (jN el true) in_) (jD (iw (jN el true) ou) (jD (iw (jN el false) lo) 0))))):=by show _=_;rw[I.out,lp aa,lp ae,lp aq,lp ay,lp aG,lp b9,decide_eq_false bE];simp only[qu,qT]
  have cj:¬en_.length<=8:=by omega
  have ad:max (in_.length:Int) (ou.length:Int)<=64:=by omega
  go_wp2_with fail;exact QF (E:=iX false 3) (HM _ 3 (by decide) w2 (ij (iq W2) d2)) (by first | rfl | exact nQ (fun b=>iX b 3) (decide_eq_false (by omega))) I J a7 (B1.trans (ni d2))
 have cj:en_.length<=8:=by omega
 have ad:max (in_.length:Int) (ou.length:Int)<=64:=by omega
 replace I:Hid (X1=jD (iX true 3) (jD (iX (decide ((0:Int)<(ou.length:Int))) 8) (jD (iw (jN el true) in_) (jD (iw (jN el true) ou) (jD (iw (jN el false) lo) 0))))):=by show _=_;rw[I.out,lp aa,lp ae,lp aq,lp ay,lp aG,lp b9,lp bE];rfl
 go_wp2_with fail;refine mN (E:=iX true 3) (HM _ 3 (by decide) w2 (ij (iq W2) d2)) (by first | rfl | exact nQ (fun b=>iX b 3) (lp (by omega))) I J a7 (B1.trans (ni d2)) ?_;clear I;intro w10 I b3;have bc:ik W2 w10:=ij d2 b3;have c5:ik W2 w10:=ij (b2) b3;obtain⟨k0,k1,k2,k3,k4,k5,k6,k7,kn,l0,ll⟩:=HK w10 (c5);go_wp2_with fail;refine mN (E:=iX (decide ((0:Int)<(ou.length:Int))) 8) (HM _ 8 (by decide) w10 (ij (iq W2) bc)) (nQ (fun b=>iX b 8) (decide_eq_decide.2 (by omega))) I J a7 (B1.trans (ni bc)) ?_;clear I;intro w11 I b1;have bb:ik W2 w11:=ij bc b1;have c4:ik W2 w11:=ij (c5) b1;obtain⟨k0,k1,k2,k3,k4,k5,k6,k7,kn,l0,ll⟩:=HK w11 (c4);go_wp2_with fail;refine mN (HD inA inc in_ (HY.r1.decls W2 (k:=ai)) true w11 (ij (iq W2) bb)) rfl I J a7 (B1.trans (ni bb)) ?_;clear I;intro w12 I b0;have ba:ik W2 w12:=ij bb b0;have c3:ik W2 w12:=ij (c4) b0;obtain⟨k0,k1,k2,k3,k4,k5,k6,k7,kn,l0,ll⟩:=HK w12 (c3);go_wp2_with fail;refine mN (HD ouA ouc ou (HY.r2.decls W2 (k:=ai)) true w12 (ij (iq W2) ba)) rfl I J a7 (B1.trans (ni ba)) ?_;clear I;intro w13 I aZ;have b':ik W2 w13:=ij ba aZ;have c2:ik W2 w13:=ij (c3) aZ;obtain⟨k0,k1,k2,k3,k4,k5,k6,k7,kn,l0,ll⟩:=HK w13 (c2);go_wp2_with fail;refine mN (HD loA loc lo (HY.r3.decls W2 (k:=ai)) false w13 (ij (iq W2) b')) rfl I J a7 (B1.trans (ni b')) ?_;clear I;intro w14 I aY
 have bQ:ik W2 w14:=ij b' aY;have cF:ik W2 w14:=ij (c2) aY;obtain⟨k0,k1,k2,k3,k4,k5,k6,k7,kn,l0,ll⟩:=HK w14 (cF);go_wp2_with fail;replace a6:=iB (a6.trans (kC I));replace a':=iB (a'.trans (iG I));go_loopw [82] (fun x wr=>∃j:Nat,j<=eq.length/\x=.int .i64 (j:Nat)/\Hid (iw (rN el) (eq.take j)=0)/\Hid (xx g W2 wr/\∃q',pK wr g eA el.length ec i q')) (fun x _=>eq.length-(intOf x).toNat)
 case atStart=>exact⟨0,by omega,rfl,iB (by simp[iw]),iB ⟨ni bQ,_,a8.here w14 (k:=bQ)⟩⟩
 case round=>
 obtain⟨j,hj,rfl,aN,HB⟩:=hrel;obtain⟨rj,cf⟩:∃r,wr=r:=⟨_,rfl⟩;rw[cf]at HB⊢;obtain⟨cG,cT,k0,k1,k2,k3,k4,k5,k6,k7,kn⟩:=bh rj HB.1;obtain⟨q',ao⟩:=HB.2;by_cases aT:j<eq.length
 ·have cv:(j:Int)<(eq.length:Int):=by omega
  obtain⟨bj,pj,yj,rfl,cK,aL,bJ⟩:=(HY.r4.eqs rj (k:=cG)).part (i:=j) aT;obtain⟨⟨qA,qc,ql⟩,⟨k,o,t,v,s,A,c,xs⟩⟩:=yj;obtain⟨_,_,c7⟩:=HY.r4.elem (i:=j) aL;have aM:=iB c7;obtain⟨z0,z1,z2,z3,z4,z5⟩:=bJ.six;have z6:=bJ.c0;simp only[txs]at z0 z1 z2 z3 z4 z5 z6;have J:Hid (rN el ⟨⟨qA,qc,ql⟩,.mk k o t v s A c xs⟩≠0->R=rN el ⟨⟨qA,qc,ql⟩,.mk k o t v s A c xs⟩):=iB fun h=>by
   have h1:=kN (rN el) aL aN h;exact a6.trans ((lR (by rw[h1];exact h)).trans h1)
  have a7:Hid (rN el ⟨⟨qA,qc,ql⟩,.mk k o t v s A c xs⟩≠0->Rq=(j:Int)):=iB fun h=>by
   have h1:=Ez (rN el) 0 aL aN h;rw[t_]at h1;exact a'.trans h1
  have c':Hid (rN el ⟨⟨qA,qc,ql⟩,.mk k o t v s A c xs⟩=0->iw (rN el) (eq.take (j+1))=0):=iB fun h=>(kt (rN el) aL aN).trans h
  obtain⟨X1,a_⟩:∃X,X=rN el ⟨⟨qA,qc,ql⟩,.mk k o t v s A c xs⟩:=⟨_,rfl⟩;have I:Hid (X1=jD (rN el ⟨⟨qA,qc,ql⟩,.mk k o t v s A c xs⟩) 0):=iB (a_.trans (kE _).symm);rw[<- a_]at J c' a7;obtain⟨gq,bz⟩:∃g,rj.heap.size=g:=⟨_,rfl⟩;obtain⟨W3,cy,a3,bq,aJ⟩:∃W,rj.alloc (.cells #[.slice qA ql.length qc,.int .i64 k,.int .i64 o,.int .i64 t,.int .i64 v,.string s,.slice A xs.length c] 79)=W/\ik rj W/\iP W gq 79 #[.slice qA ql.length qc,.int .i64 k,.int .i64 o,.int .i64 t,.int .i64 v,.string s,.slice A xs.length c]/\pK W g eA el.length ec i q':=⟨_,rfl,inferInstance,by rw[<- bz];exact jC _ _ _,pK.here ao _⟩;have bw:gq≠g:=by have:=iP.lt ao;omega
  obtain⟨W4,cx,B4,b8⟩:∃W,W3.setCell ⟨g,2,none⟩ (.int .i64 (j:Nat))=W/\xx g W3 W/\pK W g eA el.length ec i (j:Nat):=⟨_,rfl,xx.set _ _ _,Hg aJ 2 _⟩;have B5:xx g W2 W4:=HB.1.trans ((ni a3).trans B4);have bd:ik w00 W4:=B5.after ai hg;have e3:=jo aJ;have e4:=bq.is_le;have e5:=nL aJ 2;have e7:=(pK.fields aJ).2.2.1;have ab:=B4.blk bq bw;have e6:=ab.is_le;have v0:W4.cell? ⟨gq,0,none⟩=some (.slice qA ql.length qc):=by rw[ab.cell];rfl
  have v1:W4.cell? ⟨gq,1,none⟩=some (.int .i64 k):=by rw[ab.cell];rfl
  have v2:W4.cell? ⟨gq,2,none⟩=some (.int .i64 o):=by rw[ab.cell];rfl
  have v3:W4.cell? ⟨gq,3,none⟩=some (.int .i64 t):=by rw[ab.cell];rfl
  have v4:W4.cell? ⟨gq,4,none⟩=some (.int .i64 v):=by rw[ab.cell];rfl
  have v5:W4.cell? ⟨gq,5,none⟩=some (.string s):=by rw[ab.cell];rfl
  have v6:W4.cell? ⟨gq,6,none⟩=some (.slice A xs.length c):=by rw[ab.cell];rfl
  have HQ:Hid (Calls prog 76 #[.pointer (some ⟨g,0,none⟩),.agg #[.slice qA ql.length qc,.int .i64 k,.int .i64 o,.int .i64 t,.int .i64 v,.string s,.slice A xs.length c]] W4 fun e w'=>PE W4 i (j:Nat) (rN el ⟨⟨qA,qc,ql⟩,.mk k o t v s A c xs⟩) e w'):=J0 (en:=⟨eA,ec,el⟩) b8 (br.enums W4 (k:=bd)) ⟨qA,qc,ql⟩ (aM.lf.strs W4 (k:=bd)) (aM.ri.here W4 (k:=bd)) aM.tb (aM.sz trivial) W4 (iq _);go_wp2_with fail;try rw[cy]
  try rw[cx]
  try rw[bz]
  refine mN (HQ) rfl I J a7 (B1.trans (B5.trans (ni (iq W4)))) ?_;clear I;intro w15 I aX;have bP:ik W4 w15:=ij (iq W4) aX;have cS:=ij (iq W4) aX;go_wp2_with fail;go_roundw
  case rel=>exact⟨j+1,by omega,by go_num,iB (c' I),iB ⟨B5.trans (ni bP),_,b8.here w15 (k:=bP)⟩⟩
  case measure=>simp only[intOf];omega
 have hz:=lh (rN el) aT aN;replace a6:=iB (a6.trans (kC hz));replace a':=iB (a'.trans (AS (rN el) eq 0 hz));obtain⟨W6,cw,B6,a8⟩:∃W,rj.setCell ⟨g,2,none⟩ (.int .i64 (-1))=W/\xx g rj W/\pK W g eA el.length ec i (-1):=⟨_,rfl,xx.set _ _ _,Hg ao 2 _⟩;have B7:xx g W2 W6:=HB.1.trans B6;have ah:ik w00 W6:=B7.after ai hg;have e3:=jo ao;have e5:=nL ao 2;have e7:=(pK.fields ao).2.2.1;have aF:=br.enums W6 (k:=ah);have HA:Hid (∀(A1:Option Addr) (c1:Nat) (l:List StT),zS True W6 (.mk A1 c1 l)->∀U,ik W6 U->Calls prog 77 #[.pointer (some ⟨g,0,none⟩),.agg #[.slice A1 l.length c1],.int .i64 0] U fun e w'=>PE U i (-1) (rK el 0 (.mk A1 c1 l)) e w'):=fun A1 c1 l hh U hU=>LZ a8 aF A1 c1 l hh U hU
 have HG:Hid (∀e,∀U,ik W6 U->Calls prog 78 #[.pointer (some ⟨g,0,none⟩),.int .i64 e] U fun e' w'=>PE U i (-1) e e' w'):=fun e U hU=>Au (a8.here U (k:=hU)) e
 have HX:Hid (∀(k o t v:Int) (s:ByteArray) (A:Option Addr) (c:Nat) (xs:List Tx),(Tx.mk k o t v s A c xs).size<=2000000->FY (.mk k o t v s A c xs)->RX W6 (.mk k o t v s A c xs)->∀U,ik W6 U->Calls prog 79 #[.slice eA el.length ec,.agg #[.int .i64 k,.int .i64 o,.int .i64 t,.int .i64 v,.string s,.slice A xs.length c]] U fun e w'=>e=.returned (.int .i64 (qk el (.mk k o t v s A c xs)))/\∃z,w'=U.more z):=fun k o t v s A c xs hs hB hX U hU=>(zX aF hs hX hB U hU).mono fun e w_ h_=>⟨h_.1,have:=h_.2;jP _ _⟩
 have HK:Hid (∀U,ik W6 U->U.cell? ⟨gn,0,none⟩=some (.string nm)/\U.cell? ⟨gn,1,none⟩=some (.slice inA in_.length inc)/\U.cell? ⟨gn,2,none⟩=some (.slice ouA ou.length ouc)/\U.cell? ⟨gn,3,none⟩=some (.slice loA lo.length loc)/\U.cell? ⟨gn,4,none⟩=some (.slice eqA eq.length eqc)/\U.cell? ⟨gn,5,none⟩=some (.slice auA au.length auc)/\U.cell? ⟨gn,6,none⟩=some (.slice asA as_.length asc)/\U.cell? ⟨gn,7,none⟩=some (.slice enA en_.length enc)/\Le (gn+1) U/\U.cell? ⟨g,0,none⟩=some (.slice eA el.length ec)/\Le (g+1) U):=fun U hU=>by
  obtain⟨_,_,x0,x1,x2,x3,x4,x5,x6,x7,x8⟩:=bh U (B7.trans (ni hU));exact⟨x0,x1,x2,x3,x4,x5,x6,x7,x8,(a8.here U (k:=hU)).fields.1,(a8.here U (k:=hU)).fields.2.2.2⟩
 have ca:=iB kn;obtain⟨k0,k1,k2,k3,k4,k5,k6,k7,kn,l0,ll⟩:=HK W6 (iq _);have e9:=ca.out;go_wp2_with fail;try rw[cw]
 have az:=iq W6;go_loopw [103] (fun i wr=>∃x:Nat,x<=au.length/\i=.int .i64 (x:Nat)/\Hid (iw (rK el 0) (au.take x)=0)/\ik W6 wr) (fun i _=>au.length-(intOf i).toNat)
 case atStart=>exact⟨0,by omega,rfl,iB (by simp[iw]),iq W6⟩
 case round=>
 obtain⟨x,hx,rfl,bk,av⟩:=hrel;have aH:ik W6 wr:=ij az av;obtain⟨rx,cb⟩:∃r,wr=r:=⟨_,rfl⟩;rw[cb]at av aH⊢;obtain⟨k0,k1,k2,k3,k4,k5,k6,k7,kn,l0,ll⟩:=HK rx (av);by_cases aQ:x<au.length
 ·have cr:(x:Int)<(au.length:Int):=by omega
  obtain⟨bx,px,yx,rfl,cI,be,cB⟩:=((HY.r5.Ru W6 (k:=ah)).Ru rx (k:=ij (iq W6) aH)).part (i:=x) aQ;obtain⟨xA,xc,xl⟩:=yx;obtain⟨_,_,c6⟩:=(HY.r5.Ru W6 (k:=ah)).elem (i:=x) be;have cH:=iB c6;have y0:rx.cell? ⟨bx,px+x,none⟩=some (.slice xA xl.length xc):=by have:=cB.1;rwa [yr]at this
  have J:Hid ((rK el 0 (.mk xA xc xl))≠0->R=(rK el 0 (.mk xA xc xl))):=iB fun h=>by
   have h1:=kN (rK el 0) be bk h;have h2:R=(rK el 0 (.mk xA xc xl)):=a6.trans ((lR (by rw[h1];exact h)).trans h1);exact h2
  have I:Hid ((rK el 0 (.mk xA xc xl))=jD (rK el 0 (.mk xA xc xl)) 0):=iB (kE _).symm;have c8:Hid ((rK el 0 (.mk xA xc xl))=0->iw (rK el 0) (au.take (x+1))=0):=iy fun h=>(kt (rK el 0) be bk).trans h
  obtain⟨X1,a_⟩:∃X,X=(rK el 0 (.mk xA xc xl)):=⟨_,rfl⟩;replace I:=iy (a_.trans I);rw[<- a_]at J c8;obtain⟨bK,bD⟩:=jt (rx.heap.size);obtain⟨aA,bH,aE,b6⟩:∃W,rx.alloc (.cells #[.slice xA xl.length xc] 131)=W/\Hid (∀U:World,ik W U->U.cell? ⟨bK,0,none⟩=some (.slice xA xl.length xc)/\Le (bK+1) U/\U.cell? ⟨g,0,none⟩=some (.slice eA el.length ec)/\Le (g+1) U)/\ik rx W:=by
   refine⟨_,rfl,fun U hU=>?_,iR⟩;have y0:=(jC rx 131 #[.slice xA xl.length xc]).after (w':=U);rw[bD]at y0;have q0:=ij (iq W6) (ij aH (ij iR hU));have q1:=ij (av) (ij iR hU);exact⟨by rw[y0.cell];rfl,y0.is_le,(HK U q0).2.2.2.2.2.2.2.2.2.1,(HK U q0).2.2.2.2.2.2.2.2.2.2⟩
  have bO:=ij aH b6;obtain⟨f0,bu,bt,bs⟩:=aE aA (iq _);go_wp2_with fail;try rw[bH]
  obtain⟨_,_,l0,ll⟩:=aE aA (iq _);refine mN (HA xA xc xl cH.2 aA (ij (iq W6) bO)) rfl I J (fun _=>a') (B1.trans (B7.trans (ni bO))) ?_;clear I;intro w17 I bU;have bZ:ik aA w17:=ij (iq aA) bU;obtain⟨f0,bu,l0,ll⟩:=aE w17 (bZ);go_wp2_with fail;go_roundw
  case rel=>exact⟨x+1,iu,by go_num,iy (c8 I),ij (av) (ij b6 (bZ))⟩
  case measure=>simp only[intOf];omega
 replace a6:=iy (a6.trans (kC (lh (rK el 0) aQ bk)));go_wp2_with fail;go_loopw [114] (fun i wr=>∃m:Nat,m<=as_.length/\i=.int .i64 (m:Nat)/\Hid (iw (qk el) (as_.take m)=0)/\ik W6 wr) (fun i _=>as_.length-(intOf i).toNat)
 case atStart=>exact⟨0,iu,rfl,iy (by simp[iw]),av⟩
 case round=>
 obtain⟨m,hm,rfl,bp,aw⟩:=hrel;have aI:=ij az aw;obtain⟨rm,cd⟩:=jt (wr);rw[cd]at aw aI⊢;obtain⟨k0,k1,k2,k3,k4,k5,k6,k7,kn,l0,ll⟩:=HK rm (aw);by_cases aS:m<as_.length
 ·have cu:(m:Int)<(as_.length:Int):=iu
  obtain⟨bm,pm,ym,rfl,cJ,bg,cD⟩:=((HY.r6.txs W6 (k:=ah)).txs rm (k:=ij (iq W6) aI)).part (i:=m) aS;obtain⟨k,o,t,v,s,A,c,xs⟩:=ym;obtain⟨_,_,aD⟩:=(HY.r6.txs W6 (k:=ah)).elem (i:=m) bg;have aB:=iy (HX k o t v s A c xs (aD.sz trivial) aD.tb aD.rx);obtain⟨z0,z1,z2,z3,z4,z5⟩:=cD.six;simp only[txs]at z0 z1 z2 z3 z4 z5;obtain⟨ee,ax⟩:=jt (qk el (.mk k o t v s A c xs));rw[ax]at aB;have J:Hid ((qk el (.mk k o t v s A c xs))≠0->R=(qk el (.mk k o t v s A c xs))):=iy fun h=>by
   have h1:=kN (qk el) bg bp h;have h2:=a6.trans ((lR (by rw[h1];exact h)).trans h1);exact h2
  have I:Hid ((qk el (.mk k o t v s A c xs))=jD ee 0):=by show _=_;rw[kE,ax]
  have c_:Hid ((qk el (.mk k o t v s A c xs))=0->iw (qk el) (as_.take (m+1))=0):=iy fun h=>(kt (qk el) bg bp).trans h
  obtain⟨X1,a_⟩:∃X,X=(qk el (.mk k o t v s A c xs)):=⟨_,rfl⟩;replace I:=iy (a_.trans I);rw[<- a_]at J c_;obtain⟨ag,bC⟩:=jt (rm.heap.size);obtain⟨ak,bG,an,b5⟩:∃W,rm.alloc (.cells #[.int .i64 k,.int .i64 o,.int .i64 t,.int .i64 v,.string s,.slice A xs.length c] 73)=W/\Hid (∀U:World,ik W U->U.cell? ⟨ag,0,none⟩=some (.int .i64 k)/\U.cell? ⟨ag,1,none⟩=some (.int .i64 o)/\U.cell? ⟨ag,2,none⟩=some (.int .i64 t)/\U.cell? ⟨ag,3,none⟩=some (.int .i64 v)/\U.cell? ⟨ag,4,none⟩=some (.string s)/\U.cell? ⟨ag,5,none⟩=some (.slice A xs.length c)/\Le (ag+1) U/\U.cell? ⟨g,0,none⟩=some (.slice eA el.length ec)/\Le (g+1) U)/\ik rm W:=by
   refine⟨_,rfl,fun U hU=>?_,iR⟩;have y0:=(jC rm 73 #[.int .i64 k,.int .i64 o,.int .i64 t,.int .i64 v,.string s,.slice A xs.length c]).after (w':=U);rw[bC]at y0;have q0:=ij (iq W6) (ij aI (ij iR hU));have q1:=ij (aw) (ij iR hU);exact⟨by rw[y0.cell];rfl,by rw[y0.cell];rfl,by rw[y0.cell];rfl,by rw[y0.cell];rfl,by rw[y0.cell];rfl,by rw[y0.cell];rfl,y0.is_le,(HK U q0).2.2.2.2.2.2.2.2.2.1,(HK U q0).2.2.2.2.2.2.2.2.2.2⟩
  have bN:=ij aI b5;obtain⟨f0,f1,f2,f3,f4,f5,aP,bt,bs⟩:=an ak (iq _);go_wp2_with fail;try rw[bG]
  obtain⟨_,_,_,_,_,_,_,l0,ll⟩:=an ak (iq _);have cR:=ij (iq W6) bN;refine jf 7 kp kp ?_;simp only[sD,rP,uB,sS];repeat (go_big_quiet_step ((go_at_call 79;exact mR (aB _ iR))))
  refine wpQuiet_nil ?_;rintro _ ⟨y_,rfl⟩;obtain⟨w19,b7,aW⟩:∃v,ak.more y_=v/\ik ak v:=⟨_,rfl,iR⟩;rw[b7];have bM:ik W6 w19:=ij bN aW;have bY:ik ak w19:=ij (iq ak) aW;obtain⟨f0,f1,f2,f3,f4,f5,aP,l0,ll⟩:=an w19 (bY);go_wp2_with fail;refine mN (HG ee w19 (ij (iq W6) bM)) rfl I J (fun _=>a') (B1.trans (B7.trans (ni bM))) ?_;clear I;intro w20 I bT;have bX:ik ak w20:=ij (bY) bT;obtain⟨f0,f1,f2,f3,f4,f5,aP,l0,ll⟩:=an w20 (bX);go_wp2_with fail;go_roundw
  case rel=>exact⟨m+1,iu,by go_num,iy (c_ I),ij (aw) (ij b5 (bX))⟩
  case measure=>simp only[intOf];omega
 replace a6:=iy (a6.trans (kC (lh (qk el) aS bp)));go_wp2_with fail;go_loopw [130] (fun i wr=>∃n:Nat,n<=en_.length/\i=.int .i64 (n:Nat)/\Hid (iw (qk el) (en_.take n)=0)/\ik W6 wr) (fun i _=>en_.length-(intOf i).toNat)
 case atStart=>exact⟨0,iu,rfl,iy (by simp[iw]),aw⟩
 case round=>
 obtain⟨n,hn,rfl,bo,aK⟩:=hrel;have ar:=ij az aK;obtain⟨rn,cc⟩:=jt (wr);rw[cc]at aK ar⊢;obtain⟨k0,k1,k2,k3,k4,k5,k6,k7,kn,l0,ll⟩:=HK rn (aK);by_cases aR:n<en_.length
 ·have ct:(n:Int)<(en_.length:Int):=iu
  obtain⟨bn,pn,yn,rfl,aU,bf,cC⟩:=((HY.r7.txs W6 (k:=ah)).txs rn (k:=ij (iq W6) ar)).part (i:=n) aR;obtain⟨k,o,t,v,s,A,c,xs⟩:=yn;obtain⟨_,_,aC⟩:=(HY.r7.txs W6 (k:=ah)).elem (i:=n) bf;have aB:=iy (HX k o t v s A c xs (aC.sz trivial) aC.tb aC.rx);obtain⟨z0,z1,z2,z3,z4,z5⟩:=cC.six;simp only[txs]at z0 z1 z2 z3 z4 z5;obtain⟨ee,ax⟩:=jt (qk el (.mk k o t v s A c xs));rw[ax]at aB;have J:Hid ((qk el (.mk k o t v s A c xs))≠0->R=(qk el (.mk k o t v s A c xs))):=iy fun h=>by
   have h1:=kN (qk el) bf bo h;have h2:=a6.trans ((lR (by rw[h1];exact h)).trans h1);exact h2
  have I:Hid ((qk el (.mk k o t v s A c xs))=jD ee 0):=by show _=_;rw[kE,ax]
  have c9:Hid ((qk el (.mk k o t v s A c xs))=0->iw (qk el) (en_.take (n+1))=0):=iy fun h=>(kt (qk el) bf bo).trans h
  obtain⟨X1,a_⟩:∃X,X=(qk el (.mk k o t v s A c xs)):=⟨_,rfl⟩;replace I:=iy (a_.trans I);rw[<- a_]at J c9;obtain⟨af,bB⟩:=jt (rn.heap.size);obtain⟨aj,bF,al,b4⟩:∃W,rn.alloc (.cells #[.int .i64 k,.int .i64 o,.int .i64 t,.int .i64 v,.string s,.slice A xs.length c] 73)=W/\Hid (∀U:World,ik W U->U.cell? ⟨af,0,none⟩=some (.int .i64 k)/\U.cell? ⟨af,1,none⟩=some (.int .i64 o)/\U.cell? ⟨af,2,none⟩=some (.int .i64 t)/\U.cell? ⟨af,3,none⟩=some (.int .i64 v)/\U.cell? ⟨af,4,none⟩=some (.string s)/\U.cell? ⟨af,5,none⟩=some (.slice A xs.length c)/\Le (af+1) U/\U.cell? ⟨g,0,none⟩=some (.slice eA el.length ec)/\Le (g+1) U)/\ik rn W:=by
   refine⟨_,rfl,fun U hU=>?_,iR⟩;have y0:=(jC rn 73 #[.int .i64 k,.int .i64 o,.int .i64 t,.int .i64 v,.string s,.slice A xs.length c]).after (w':=U);rw[bB]at y0;have q0:=ij (iq W6) (ij ar (ij iR hU));exact⟨by rw[y0.cell];rfl,by rw[y0.cell];rfl,by rw[y0.cell];rfl,by rw[y0.cell];rfl,by rw[y0.cell];rfl,by rw[y0.cell];rfl,y0.is_le,(HK U q0).2.2.2.2.2.2.2.2.2.1,(HK U q0).2.2.2.2.2.2.2.2.2.2⟩
  have cE:=ij ar b4;obtain⟨f0,f1,f2,f3,f4,f5,aO,bt,bs⟩:=al aj (iq _);go_wp2_with fail;try rw[bF]
  obtain⟨_,_,_,_,_,_,_,l0,ll⟩:=al aj (iq _);refine jf 7 kp kp ?_;simp only[sD,rP,uB,sS];repeat (go_big_quiet_step ((go_at_call 79;exact mR (aB _ iR))))
  refine wpQuiet_nil ?_;rintro _ ⟨y_,rfl⟩;obtain⟨w22,b7,aV⟩:∃v,aj.more y_=v/\ik aj v:=⟨_,rfl,iR⟩;rw[b7];have bL:ik W6 w22:=ij cE aV;have bW:ik aj w22:=ij (iq aj) aV;obtain⟨f0,f1,f2,f3,f4,f5,aO,l0,ll⟩:=al w22 (bW);go_wp2_with fail;refine mN (HG ee w22 (ij (iq W6) bL)) rfl I J (fun _=>a') (B1.trans (B7.trans (ni bL))) ?_;clear I;intro w23 I bS;have bV:ik aj w23:=ij (bW) bS;obtain⟨f0,f1,f2,f3,f4,f5,aO,l0,ll⟩:=al w23 (bV);go_wp2_with fail;go_roundw
  case rel=>exact⟨n+1,iu,by go_num,iy (c9 I),ij (aK) (ij b4 (bV))⟩
  case measure=>simp only[intOf];omega
 replace a6:=iy (a6.trans (kC (lh (qk el) aR bo)));go_wp2_with fail;go_end0;exact by have hz:=a6.out;rw[hz];exact ND.Ss (B1.trans (B7.trans (ni ar))) (a8.here rn (k:=ar))
end
end Go.Proofs.YtnigblndonocfaaGreatDoor
