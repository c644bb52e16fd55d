/- A part of the proof. -/
import Derived.Test.YtnigblndonocfaaGreatDoorPAx
set_option linter.unusedVariables false
set_option linter.unusedSimpArgs false
namespace Go.Proofs.YtnigblndonocfaaGreatDoor
set_option maxRecDepth 100000
set_option maxHeartbeats 6400000
open Go.Proofs.Tryz
open Go.RowKit Go.BigFrame
section
section
variable {B:World} {q:Nat} {A:Option Addr} {c:Nat} {L:List Tk} {en:Int} {eA:Option Addr} {ec:Nat} {el:List iW} {w w0 w1:World} {i:Nat}
theorem K5 {k m:Nat} (hm:m<=3) (htag:∀u∈el,u.tags.l.length<=16) (hel:el.length<=1000) (C:∀j≤k,CB B q A c L en eA ec el j) (h:Rd B q A c L en eA ec el w i) (hk:20*(L.length-i)+30<=k+1):Calls prog 72 #[.pointer (some q),.int .i64 ((3-m:Nat):Int)] w (pk B q A c L en eA ec el w i (mu el (k+1) m [] [] (L.drop i)) (VB w.heap.size)):=by
 obtain⟨dp,bg⟩:∃d:Nat,3-m=d:=⟨_,rfl⟩;rw[bg];obtain⟨X,hX⟩:=jt (mu el (k+1) m [] [] (L.drop i));rw[hX];obtain⟨i0,bx⟩:=jt (i);rw[bx]at hX h hk⊢;have HX:=iy hX.symm;have bp:Hid (i0<=i0):=js _;have hq:=h.blk.lt;have bA:=h.base;obtain⟨w0,rfl⟩:∃v,v=w:=⟨_,rfl⟩;have aw0:ik w0 w0:=iq _;have R0:=iy h;have a0:ik (iz q w0) (iz q w0):=iq _;have bF:q<w0.heap.size:=by omega
 have bG:B.heap.size<=w0.heap.size:=by omega
 go_in;go_wp2_with fail;obtain⟨n1,aX⟩:=jt (w0.heap.size);have J:q<n1:=iu;have aa:=lI aX.symm;have b6:B.heap.size<=n1:=iu;have b5:=lI aX;go_loopw [6,7] (fun v6 v7 wr=>∃(i' f:Nat) (R:List oX) (I:List AuT),Hid (i0<=i')/\f<=k+1/\20*(L.length-i')+30<=f/\R.length<=256/\I.length<=8/\Hid (X=mu el f m (R.map oX.er) (I.map AuT.er) (L.drop i'))/\Hid (Rd B q A c L en eA ec el wr i')/\ik (iz q w0) (iz q wr)/\n1<=wr.heap.size/\Hid (kZ n1 79 7 pN JT (iD (fun b=>decide (b<n1)) v7) wr v6 R)/\Hid (kZ n1 131 1 pM FC (iD (fun b=>decide (b<n1)) v6) wr v7 I)/\Hid (∀b,v6.ownBlock=some b->v7.ownBlock≠some b)) (fun _ _ wr=>L.length-lO wr q 2)
 case atStart=>exact⟨i0,k+1,[],[],bp,js _,hk,wB _,wB _,HX,R0,a0,aa,vZ,vZ,iy (fun b U=>by cases U)⟩
 case round=>
 obtain⟨i2,f,R,I,bd,bL,bK,bf,b7,HX,b9,bC,aa,OE,OA,aD⟩:=hrel;obtain⟨f,rfl⟩:∃j,f=j+1:=⟨f-1,iu⟩;have d1:=iy (je b9.fields.2.2.1);obtain⟨A6,c6,bt,_,_⟩:=ji OE.own;subst bt;obtain⟨A7,c7,bs,_,_⟩:=ji OA.own;subst bs;replace HX:Hid (X=if jq ⟨#[97,117,116,111,109,97,116,111,110]⟩ (L.drop i2) then (if m=0\/8<=(I.map AuT.er).length then none else (pq el f m [] (L.drop i2).tail).bind fun (a,r)=>mu el f m (R.map oX.er) (I.map AuT.er++[a]) r) else if ju 1 (L.drop i2)||jq ⟨#[40]⟩ (L.drop i2) then (if 256<=(R.map oX.er).length then none else (Lm el f (L.drop i2)).bind fun (x,r)=>mu el f m (R.map oX.er++[x]) (I.map AuT.er) r) else some ((R.map oX.er,I.map AuT.er),L.drop i2)):=by (show _=_;rw[HX.out,mu])
 rw[pE,pE]at HX;have HC:=iy (nK b9 ⟨#[97,117,116,111,109,97,116,111,110]⟩);obtain⟨zk,an⟩:=jt (jq ⟨#[97,117,116,111,109,97,116,111,110]⟩ (L.drop i2));rw[an]at HC HX;have HZ:=iy an;go_wp2_with fail;refine HC.mono ?_;rintro e aJ ⟨rfl,aN⟩;have aI:=iy (b9.after aN);have aR:=im (q:=q) aN;have b8:=ij bC aR;have aZ:=bd;have aa:n1<=aJ.heap.size:=jW aa aN.below.size;have a1:Hid (kZ n1 79 7 pN JT (iD (fun b=>decide (b<n1)) (.slice A7 I.length c7)) aJ (.slice A6 R.length c6) R):=OE.out.iv pe J (by unfold iD;simp[J]) aR;have a6:Hid (kZ n1 131 1 pM FC (iD (fun b=>decide (b<n1)) (.slice A6 R.length c6)) aJ (.slice A7 I.length c7) I):=OA.out.iv oT J (by unfold iD;simp[J]) aR;have OE:=a1;have OA:=a6;cases zk
 ·skip
  replace HX:=iy (HX.trans (iV yE));have HC:=iy (qv aI 1);obtain⟨zk,an⟩:=jt (ju 1 (L.drop i2));rw[an]at HC HX;have HZ:=iy an;go_wp2_with fail;refine HC.mono ?_;rintro e ad ⟨rfl,aN⟩;have av:=iy (aI.after aN);have af:ik (iz q aJ) (iz q ad):=im (q:=q) aN;have aU:=ij b8 af;have aA:=aZ;have aa:n1<=ad.heap.size:=jW aa aN.below.size;have a1:Hid (kZ n1 79 7 pN JT (iD (fun b=>decide (b<n1)) (.slice A7 I.length c7)) ad (.slice A6 R.length c6) R):=OE.out.iv pe J (by unfold iD;simp[J]) af;have a6:Hid (kZ n1 131 1 pM FC (iD (fun b=>decide (b<n1)) (.slice A6 R.length c6)) ad (.slice A7 I.length c7) I):=OA.out.iv oT J (by unfold iD;simp[J]) af;have OE:=a1;have OA:=a6;cases zk
  ·skip
   rw[Bool.false_or]at HX;have HC:=iy (nK av ⟨#[40]⟩);obtain⟨zk,an⟩:=jt (jq ⟨#[40]⟩ (L.drop i2));rw[an]at HC HX;have HZ:=iy an;go_wp2_with fail;refine HC.mono ?_;rintro e a_ ⟨rfl,aN⟩;have ay:=iy (av.after aN);have ab:ik (iz q ad) (iz q a_):=im (q:=q) aN;have ax:=ij aU ab;have ah:=aA;have aa:n1<=a_.heap.size:=jW aa aN.below.size;have a1:Hid (kZ n1 79 7 pN JT (iD (fun b=>decide (b<n1)) (.slice A7 I.length c7)) a_ (.slice A6 R.length c6) R):=OE.out.iv pe J (by unfold iD;simp[J]) ab;have a6:Hid (kZ n1 131 1 pM FC (iD (fun b=>decide (b<n1)) (.slice A6 R.length c6)) a_ (.slice A7 I.length c7) I):=OA.out.iv oT J (by unfold iD;simp[J]) ab;clear OE OA;have OE:=a1;have OA:=a6;clear a1 a6;cases zk
   ·skip
    have bD:=iy (HX.trans (iV yE));go_wp2_with fail;have bk:∀vX:Value,∀b,b<n1->iD (fun b=>decide (b<n1)) vX b=true:=fun vX b U=>by unfold iD;simp[U]
    obtain⟨FA,fc,br,DF⟩:=OE.row (P:=xv True) pe (bk _) (fun y=>rfl) iu (fun W b o y hy hj=>Rh hy hj);obtain⟨GA,gc,bq,DG⟩:=OA.row (P:=xM True) oT (bk _) (fun y=>rfl) iu (fun W b o y hy hj=>QN hy hj);exact jR (v:=.tuple #[(.slice A6 R.length c6),(.slice A7 I.length c7)]) (by simp[results,results72,go_sem]) rfl (lN (x:=(R.map oX.er,I.map AuT.er)) bD (ij (im aw0) ax) ⟨FA,fc,R,GA,gc,I,by rw[br,bq],rfl,rfl,by rw[aX];exact DF,by rw[aX];exact DG,bf,b7⟩ ay rfl ah)
   replace HX:=iy (HX.trans (iG (by rfl)));have HC:=iy (mF ay (R.length:Int) 256);go_wp2_with fail;refine HC.mono ?_;clear HC;rintro e a7 ⟨aN,hE⟩;have aH:=iy (ay.after aN);have a':ik (iz q a_) (iz q a7):=im (q:=q) aN;have aF:=ij ax a';have al:=ah;have aa:n1<=a7.heap.size:=jW aa aN.below.size;clear aN;have a1:Hid (kZ n1 79 7 pN JT (iD (fun b=>decide (b<n1)) (.slice A7 I.length c7)) a7 (.slice A6 R.length c6) R):=OE.out.iv pe J (by unfold iD;simp[J]) a';have a6:Hid (kZ n1 131 1 pM FC (iD (fun b=>decide (b<n1)) (.slice A6 R.length c6)) a7 (.slice A7 I.length c7) I):=OA.out.iv oT J (by unfold iD;simp[J]) a';clear OE OA;have OE:=a1;have OA:=a6;clear a1 a6;rcases hE with⟨hlt4,rfl⟩ | ⟨hge4,hf⟩
   ·skip
    replace HX:=iy (HX.trans (iV iu));have aE:∀b,((.slice A6 R.length c6):Value).ownBlock=some b->b<a7.heap.size:=fun b U=>(OE.own.lt b U).2
    have aw:∀b,((.slice A7 I.length c7):Value).ownBlock=some b->b<a7.heap.size:=fun b U=>(OA.out.own.lt b U).2
    have ba:n1<=a7.heap.size:=aa;go_wp2_with fail;refine BC (zd (k:=f) htag hel aH iu) HX aF al ?_;clear HX;intro ak bn bJ i25 bh be aG HX bc bH aB aT;obtain⟨⟨⟨lA,lc,ll⟩,k9,o9,t9,z9,s9,A9,c9,a8⟩,aO,rfl,D9⟩:=be;have au:Value.agg (pN (oX.mk ⟨lA,lc,ll⟩ (.mk k9 o9 t9 z9 s9 A9 c9 a8))).toArray=.agg #[.slice lA ll.length lc,k9,o9,t9,z9,s9,.slice A9 a8.length c9]:=rfl;rw[au];clear au;have a1:Hid (kZ n1 79 7 pN JT (iD (fun b=>decide (b<n1)) (.slice A7 I.length c7)) ak (.slice A6 R.length c6) R):=OE.out.iv pe J (by unfold iD;simp[J]) aB;have a6:Hid (kZ n1 131 1 pM FC (iD (fun b=>decide (b<n1)) (.slice A6 R.length c6)) ak (.slice A7 I.length c7) I):=OA.out.iv oT J (by unfold iD;simp[J]) aB;clear OE OA;have OE:=a1;have OA:=a6;clear a1 a6;have b2:i2<i25:=by have h1:=FD htag hel bh;rw[nY,nY]at h1;have:=aG.out.le;omega
    have aM:n1<=ak.heap.size:=by have h1:=lZ aB;omega
    obtain⟨w26,b0,ag,aS,aK⟩:∃z,ak.alloc (.cells #[.slice lA ll.length lc,k9,o9,t9,z9,s9,.slice A9 a8.length c9] 79)=z/\Rd B q A c L en eA ec el z i25/\ik (iz q w0) (iz q z)/\ik ak z:=⟨_,rfl,aG.out.after iR,ij aT (im iR),iR⟩;have aC:=OE.out.after pe aK;have bm:=OA.out.after oT aK;have bE:=pe.below _ _ _ (jK aK).below D9;have ao:=iy b0;clear b0;go_wp2_with (at_builtin;obtain⟨i0_,hi0_,hz0_,hz1_,hz2_⟩:=info_parts NP;refine ka (ak.alloc (.cells #[.slice lA ll.length lc,k9,o9,t9,z9,s9,.slice A9 a8.length c9] 79)) rfl (.tmp 47) (.tmp 50) 61 rfl n1 79 i0_ _ 7 _ underlying61 hi0_ hz0_ hz1_ hz2_ rfl iI (.slice A6 R.length c6) R.length (R.flatMap pN) rfl (by rw[ao.out];exact aC.own) _ _ 1 1 [.slice lA ll.length lc,.int .i64 k9,.int .i64 o9,.int .i64 t9,.int .i64 z9,.string s9,.slice A9 a8.length c9] rfl (ki (w:=ak) rfl #[.slice lA ll.length lc,k9,o9,t9,z9,s9,.slice A9 a8.length c9] 79 _ rfl 1 7 rfl) (by intro u hu;simp only[la]at hu;rcases hu with rfl | rfl | rfl | rfl | rfl | rfl | rfl<;>rfl) (by unfold maxLen;omega) iu (by rw[iH];omega) ?_;rw[ao.out];intro v5 w27 own5 hg5 hb5;clear hi0_ hz0_ hz1_ hz2_;have own5:=iy own5;have hg5:=iy hg5;have hb5:=iy hb5)
    have aV:=iy (aC.add (m:=a7.heap.size) pe bE (fun b U=>by (unfold iD at U;simp only[uG,decide_eq_true_eq,beq_iff_eq]at U;rcases U with U | U;omega;exact aw b U)) aE own5.out hg5.out hb5.out);have aW:=iy (bm.other oT hg5 hb5 (fun b U e=>aD b e U));have aY:=iy (ag.grown aC.own hg5 J b6);have bB:=kF aS aC.own hg5 J b5;have ar:Hid (∀b,v5.ownBlock=some b->((.slice A7 I.length c7):Value).ownBlock≠some b):=iy (fun b U=>by rcases hb5 with h1 | h1;rw[h1]at U;exact aD b U;rw[h1]at U;injection U with U;intro e;have h2:=aw b e;have h3:=aK.below.size;have h4:=lZ aB;omega);have aL:=jW (jW aM aK.below.size) hg5.size;replace HX:Hid (X=mu el f m ((R++[(oX.mk ⟨lA,lc,ll⟩ (.mk k9 o9 t9 z9 s9 A9 c9 a8))]).map oX.er) (I.map AuT.er) (L.drop i25)):=by (show _=_;rw[s_,show [(oX.mk ⟨lA,lc,ll⟩ (.mk k9 o9 t9 z9 s9 A9 c9 a8))].map oX.er=[bn] by rw[<- aO];rfl];exact HX)
    have aQ:(R++[(oX.mk ⟨lA,lc,ll⟩ (.mk k9 o9 t9 z9 s9 A9 c9 a8))]).length<=256:=by rw[mo];show R.length+1<=256;omega
    exact⟨⟨i25,f,(R++[(oX.mk ⟨lA,lc,ll⟩ (.mk k9 o9 t9 z9 s9 A9 c9 a8))]),I,bc,iu,by have:=aY.le;omega,aQ,b7,HX,aY,bB,aL,aV,aW,ar⟩,by (rw[je aY.out.fields.2.2.1,d1.out];have:=aY.le;omega)⟩
   have az:=iy (HX.trans (iG iu));obtain⟨a,er,rfl,he⟩:=hf;unfold oD;go_wp2_with fail;exact⟨rfl,kf az (ij (im aw0) aF) (jz a er he)⟩
  replace HX:=iB (HX.trans (iG (by rfl)));have HC:=iy (mF av (R.length:Int) 256);go_wp2_with fail;refine HC.mono ?_;clear HC;rintro e a_ ⟨aN,hE⟩;have ay:=iB (av.after aN);have ab:ik (iz q ad) (iz q a_):=im (q:=q) aN;have ax:=ij aU ab;have ah:=aA;have aa:n1<=a_.heap.size:=jW aa aN.below.size;clear aN;have a1:Hid (kZ n1 79 7 pN JT (iD (fun b=>decide (b<n1)) (.slice A7 I.length c7)) a_ (.slice A6 R.length c6) R):=OE.out.iv pe J (by unfold iD;simp[J]) ab;have a6:Hid (kZ n1 131 1 pM FC (iD (fun b=>decide (b<n1)) (.slice A6 R.length c6)) a_ (.slice A7 I.length c7) I):=OA.out.iv oT J (by unfold iD;simp[J]) ab;clear OE OA;have OE:=a1;have OA:=a6;clear a1 a6;rcases hE with⟨hlt4,rfl⟩ | ⟨hge4,hf⟩
  ·skip
   replace HX:=iB (HX.trans (iV (by omega)));have aE:∀b,((.slice A6 R.length c6):Value).ownBlock=some b->b<a_.heap.size:=fun b U=>(OE.own.lt b U).2
   have aw:∀b,((.slice A7 I.length c7):Value).ownBlock=some b->b<a_.heap.size:=fun b U=>(OA.out.own.lt b U).2
   have ba:n1<=a_.heap.size:=aa;go_wp2_with fail;refine BC (zd (k:=f) htag hel ay (by omega)) HX ax ah ?_;clear HX;intro a7 b4 bo i24 bj aP aH HX al b3 a' aF;obtain⟨⟨⟨lA,lc,ll⟩,k9,o9,t9,z9,s9,A9,c9,a8⟩,aO,rfl,D9⟩:=aP;have au:Value.agg (pN (oX.mk ⟨lA,lc,ll⟩ (.mk k9 o9 t9 z9 s9 A9 c9 a8))).toArray=.agg #[.slice lA ll.length lc,k9,o9,t9,z9,s9,.slice A9 a8.length c9]:=rfl;rw[au];clear au;have a1:Hid (kZ n1 79 7 pN JT (iD (fun b=>decide (b<n1)) (.slice A7 I.length c7)) a7 (.slice A6 R.length c6) R):=OE.out.iv pe J (by unfold iD;simp[J]) a';have a6:Hid (kZ n1 131 1 pM FC (iD (fun b=>decide (b<n1)) (.slice A6 R.length c6)) a7 (.slice A7 I.length c7) I):=OA.out.iv oT J (by unfold iD;simp[J]) a';clear OE OA;have OE:=a1;have OA:=a6;clear a1 a6;have b2:i2<i24:=by have h1:=FD htag hel bj;rw[nY,nY]at h1;have:=aH.out.le;omega
   have aM:n1<=a7.heap.size:=by have h1:=lZ a';omega
   obtain⟨ak,aq,aG,aT,ae⟩:∃z,a7.alloc (.cells #[.slice lA ll.length lc,k9,o9,t9,z9,s9,.slice A9 a8.length c9] 79)=z/\Rd B q A c L en eA ec el z i24/\ik (iz q w0) (iz q z)/\ik a7 z:=⟨_,rfl,aH.out.after iR,ij aF (im iR),iR⟩;have ai:=OE.out.after pe ae;have aj:=OA.out.after oT ae;have b_:=pe.below _ _ _ (jK ae).below D9;have ao:=iy aq;clear aq;go_wp2_with (at_builtin;obtain⟨i0_,hi0_,hz0_,hz1_,hz2_⟩:=info_parts NP;refine ka (a7.alloc (.cells #[.slice lA ll.length lc,k9,o9,t9,z9,s9,.slice A9 a8.length c9] 79)) rfl (.tmp 47) (.tmp 50) 61 rfl n1 79 i0_ _ 7 _ underlying61 hi0_ hz0_ hz1_ hz2_ rfl iI (.slice A6 R.length c6) R.length (R.flatMap pN) rfl (by rw[ao.out];exact ai.own) _ _ 1 1 [.slice lA ll.length lc,.int .i64 k9,.int .i64 o9,.int .i64 t9,.int .i64 z9,.string s9,.slice A9 a8.length c9] rfl (ki (w:=a7) rfl #[.slice lA ll.length lc,k9,o9,t9,z9,s9,.slice A9 a8.length c9] 79 _ rfl 1 7 rfl) (by intro u hu;simp only[la]at hu;rcases hu with rfl | rfl | rfl | rfl | rfl | rfl | rfl<;>rfl) (by unfold maxLen;omega) iu (by rw[iH];omega) ?_;rw[ao.out];intro v5 w26 own5 hg5 hb5;clear hi0_ hz0_ hz1_ hz2_;have own5:=iy own5;have hg5:=iy hg5;have hb5:=iy hb5)
   have aV:=iy (ai.add (m:=a_.heap.size) pe b_ (fun b U=>by (unfold iD at U;simp only[uG,decide_eq_true_eq,beq_iff_eq]at U;rcases U with U | U;omega;exact aw b U)) aE own5.out hg5.out hb5.out);have aW:=iy (aj.other oT hg5 hb5 (fun b U e=>aD b e U));have ag:=iy (aG.grown ai.own hg5 J b6);have aS:=kF aT ai.own hg5 J b5;have ar:Hid (∀b,v5.ownBlock=some b->((.slice A7 I.length c7):Value).ownBlock≠some b):=iy (fun b U=>by rcases hb5 with h1 | h1;rw[h1]at U;exact aD b U;rw[h1]at U;injection U with U;intro e;have h2:=aw b e;have h3:=ae.below.size;have h4:=lZ a';omega);have aL:=jW (jW aM ae.below.size) hg5.size;replace HX:Hid (X=mu el f m ((R++[(oX.mk ⟨lA,lc,ll⟩ (.mk k9 o9 t9 z9 s9 A9 c9 a8))]).map oX.er) (I.map AuT.er) (L.drop i24)):=by (show _=_;rw[s_,show [(oX.mk ⟨lA,lc,ll⟩ (.mk k9 o9 t9 z9 s9 A9 c9 a8))].map oX.er=[b4] by rw[<- aO];rfl];exact HX)
   have aQ:(R++[(oX.mk ⟨lA,lc,ll⟩ (.mk k9 o9 t9 z9 s9 A9 c9 a8))]).length<=256:=by rw[mo];show R.length+1<=256;omega
   exact⟨⟨i24,f,(R++[(oX.mk ⟨lA,lc,ll⟩ (.mk k9 o9 t9 z9 s9 A9 c9 a8))]),I,al,iu,by have:=ag.le;omega,aQ,b7,HX,ag,aS,aL,aV,aW,ar⟩,by (rw[je ag.out.fields.2.2.1,d1.out];have:=ag.le;omega)⟩
  have az:=iy (HX.trans (iG iu));obtain⟨a,er,rfl,he⟩:=hf;unfold oD;go_wp2_with fail;exact⟨rfl,kf az (ij (im aw0) ax) (jz a er he)⟩
 replace HX:=iB (HX.trans (iG (by rfl)));rw[tail_drop]at HX;have bb:=pI HZ;have CA:Hid (∀j≤k,∀(W:World) (i':Nat),1<=m->Rd B q A c L en eA ec el W i'->20*(L.length-i')+40<=j->Calls prog 117 #[.pointer (some q),.int .i64 ((dp:Nat):Int)] W (pk B q A c L en eA ec el W i' (pq el j m [] (L.drop i')) (VG pM FC AuT.er W.heap.size))):=by
  show ∀j≤k,_
  rw[<- bg];exact fun j hj W i' h1 hR hf=>(C j hj).a W i' m hm h1 hR hf
 by_cases bw:m=0
 ·skip
  have az:Hid (X=none):=iB (HX.trans (iG (Or.inl bw)));have bz:(3:Int)<=(dp:Int):=by omega
  have HF:=iB (nj aI i2 (by omega) 3);obtain⟨c0,c1,bl,c3,f2,l0⟩:=aI.fields;go_wp2_with fail;refine HF.mono ?_;rintro e ad ⟨⟨a,rfl⟩,aN⟩;unfold oD;go_wp2_with fail;exact⟨rfl,kf az (ij (im aw0) (ij b8 (im aN))) (jz a 3 (by decide))⟩
 have bz:¬((3:Int)<=(dp:Int)):=by omega
 have bu:1<=m:=by omega
 have HC:=iB (mF aI (I.length:Int) 8);go_wp2_with fail;refine HC.mono ?_;clear HC;rintro e ad ⟨aN,hE⟩;have av:=iB (aI.after aN);have af:ik (iz q aJ) (iz q ad):=im (q:=q) aN;have aU:=ij b8 af;have aA:=aZ;have aa:n1<=ad.heap.size:=jW aa aN.below.size;clear aN;have a1:Hid (kZ n1 79 7 pN JT (iD (fun b=>decide (b<n1)) (.slice A7 I.length c7)) ad (.slice A6 R.length c6) R):=OE.out.iv pe J (by unfold iD;simp[J]) af;have a6:Hid (kZ n1 131 1 pM FC (iD (fun b=>decide (b<n1)) (.slice A6 R.length c6)) ad (.slice A7 I.length c7) I):=OA.out.iv oT J (by unfold iD;simp[J]) af;clear OE OA;have OE:=a1;have OA:=a6;clear a1 a6;rcases hE with⟨hlt4,rfl⟩ | ⟨hge4,hf⟩
 ·skip
  replace HX:=iB (HX.trans (iV (by omega)));obtain⟨c0,c1,bl,c3,f2,l0⟩:=av.fields;have bI:=av.few;obtain⟨a_,b1,ay,ax,ab,b'⟩:∃z,ad.setCell ⟨q,2,none⟩ (.int .i64 ((i2:Int)+1))=z/\Hid (Rd B q A c L en eA ec el z (i2+1))/\ik (iz q w0) (iz q z)/\ik (iz q ad) (iz q z)/\n1<=z.heap.size:=⟨_,rfl,av.move (j:=i2+1) bb,by rw[jJ];exact aU,by rw[jJ];exact iq _,by rw[jc];exact aa⟩;replace aa:=b';clear b';have ah:Hid (i0<=i2+1):=iB (wc aA);go_wp2_with fail;try rw[b1]
  clear b1 c0 c1 bl c3 f2 l0;have a1:Hid (kZ n1 79 7 pN JT (iD (fun b=>decide (b<n1)) (.slice A7 I.length c7)) a_ (.slice A6 R.length c6) R):=OE.out.iv pe J (by unfold iD;simp[J]) ab;have a6:Hid (kZ n1 131 1 pM FC (iD (fun b=>decide (b<n1)) (.slice A6 R.length c6)) a_ (.slice A7 I.length c7) I):=OA.out.iv oT J (by unfold iD;simp[J]) ab;clear OE OA;have OE:=a1;have OA:=a6;clear a1 a6;have aE:∀b,((.slice A6 R.length c6):Value).ownBlock=some b->b<a_.heap.size:=fun b U=>(OE.own.lt b U).2
  have aw:∀b,((.slice A7 I.length c7):Value).ownBlock=some b->b<a_.heap.size:=fun b U=>(OA.out.own.lt b U).2
  have ba:n1<=a_.heap.size:=aa;go_wp2_with fail;refine td (CA.out f (by omega) _ _ bu ay.out (by omega)) HX ax ah ?_;clear HX;intro a7 b4 bo i24 aP aH HX al b3 a' aF;obtain⟨⟨A9,c9,l9⟩,aO,rfl,D9⟩:=aP;have au:Value.agg (pM (AuT.mk A9 c9 l9)).toArray=.agg #[(.slice A9 l9.length c9)]:=rfl;rw[au];clear au;have a1:Hid (kZ n1 79 7 pN JT (iD (fun b=>decide (b<n1)) (.slice A7 I.length c7)) a7 (.slice A6 R.length c6) R):=OE.out.iv pe J (by unfold iD;simp[J]) a';have a6:Hid (kZ n1 131 1 pM FC (iD (fun b=>decide (b<n1)) (.slice A6 R.length c6)) a7 (.slice A7 I.length c7) I):=OA.out.iv oT J (by unfold iD;simp[J]) a';clear OE OA;have OE:=a1;have OA:=a6;clear a1 a6;have b2:i2<i24:=by have:=b3;omega
  have aM:n1<=a7.heap.size:=by have h1:=lZ a';omega
  obtain⟨ak,aq,aG,aT,ae⟩:∃z,a7.alloc (.cells #[(.slice A9 l9.length c9)] 131)=z/\Rd B q A c L en eA ec el z i24/\ik (iz q w0) (iz q z)/\ik a7 z:=⟨_,rfl,aH.out.after iR,ij aF (im iR),iR⟩;have ai:=OE.out.after pe ae;have aj:=OA.out.after oT ae;have b_:=oT.below _ _ _ (jK ae).below D9;have ao:=iy aq;clear aq;go_wp2_with (at_builtin;obtain⟨i0_,hi0_,hz0_,hz1_,hz2_⟩:=info_parts QH;refine ka (a7.alloc (.cells #[(.slice A9 l9.length c9)] 131)) rfl (.tmp 32) (.tmp 36) 62 rfl n1 131 i0_ _ 1 _ underlying62 hi0_ hz0_ hz1_ hz2_ rfl iI (.slice A7 I.length c7) I.length (I.flatMap pM) rfl (by rw[ao.out];exact aj.own) _ _ 1 1 [(.slice A9 l9.length c9)] rfl (ki (w:=a7) rfl #[(.slice A9 l9.length c9)] 131 _ rfl 1 1 rfl) (by intro u hu;simp only[la]at hu;subst hu;rfl) (by unfold maxLen;omega) iu (by rw[iH];omega) ?_;rw[ao.out];intro v5 w26 own5 hg5 hb5;clear hi0_ hz0_ hz1_ hz2_;have own5:=iy own5;have hg5:=iy hg5;have hb5:=iy hb5)
  have aW:=iy (aj.add (m:=a_.heap.size) oT b_ (fun b U=>by (unfold iD at U;simp only[uG,decide_eq_true_eq,beq_iff_eq]at U;rcases U with U | U;omega;exact aE b U)) aw own5.out hg5.out hb5.out);have aV:=iy (ai.other pe hg5 hb5 aD);have ag:=iy (aG.grown aj.own hg5 J b6);have aS:=kF aT aj.own hg5 J b5;have ar:Hid (∀b,((.slice A6 R.length c6):Value).ownBlock=some b->v5.ownBlock≠some b):=iy (fun b U=>by rcases hb5 with h1 | h1;rw[h1];exact aD b U;rw[h1];intro e;injection e with e;have h2:=aE b U;have h3:=ae.below.size;have h4:=lZ a';omega);have aL:=jW (jW aM ae.below.size) hg5.size;replace HX:Hid (X=mu el f m (R.map oX.er) ((I++[(AuT.mk A9 c9 l9)]).map AuT.er) (L.drop i24)):=by (show _=_;rw[s_,show [(AuT.mk A9 c9 l9)].map AuT.er=[b4] by rw[<- aO];rfl];exact HX)
  have aQ:(I++[(AuT.mk A9 c9 l9)]).length<=8:=by rw[mo];show I.length+1<=8;omega
  exact⟨⟨i24,f,R,(I++[(AuT.mk A9 c9 l9)]),al,iu,by have:=ag.le;omega,bf,aQ,HX,ag,aS,aL,aV,aW,ar⟩,by (rw[je ag.out.fields.2.2.1,d1.out];have:=ag.le;omega)⟩
 have az:=iy (HX.trans (iG (Or.inr iu)));obtain⟨a,er,rfl,he⟩:=hf;unfold oD;go_wp2_with fail;exact⟨rfl,kf az (ij (im aw0) aU) (jz a er he)⟩
end
end
section
section
variable {B:World} {q:Nat} {A:Option Addr} {c:Nat} {L:List Tk} {en:Int} {eA:Option Addr} {ec:Nat} {el:List iW} {w w0 w1:World} {i:Nat}
theorem Ow (htag:∀u∈el,u.tags.l.length<=16) (hel:el.length<=1000):∀k,∀j≤k,CB B q A c L en eA ec el j:=by
 have zero:CB B q A c L en eA ec el 0:=⟨fun w i m o _ h=>absurd h iu,fun w i m o I _ h=>absurd h iu⟩;intro k;induction k with
 |zero=>
  intro j J;obtain rfl:j=0:=iu;exact zero
 |succ k ih=>
 intro j J;by_cases h:j<=k
 ·exact ih j h
 obtain rfl:j=k+1:=iu;exact⟨fun w i m o R h=>K5 o htag hel ih R h,fun w i m o I R h=>Db o I htag hel ih R h⟩
theorem MM (htag:∀u∈el,u.tags.l.length<=16) (hel:el.length<=1000) (k:Nat) (h:Rd B q A c L en eA ec el w i) (hk:20*(L.length-i)+30<=k):Calls prog 72 #[.pointer (some ⟨q,0,none⟩),.int .i64 0] w (pk B q A c L en eA ec el w i (mu el k 3 [] [] (L.drop i)) (VB w.heap.size)):=
 (Ow htag hel k k (js k)).b w i 3 (js 3) h hk
end
theorem F7 {α:Type} (a:Array α) (i j:Nat) (f g:α->α) (h:i≠j):(a.modify i f).modify j g=(a.modify j g).modify i f:=by
 apply Array.ext_getElem?;intro k;simp only[Array.getElem?_modify];by_cases I:i=k<;>by_cases o:j=k<;>simp[I,o];exact absurd (I.trans o.symm) h
theorem uQ (w:World) {b b':Nat} (h:b≠b') (i j:Nat) (u v:Value):(w.setCell ⟨b,i,none⟩ u).setCell ⟨b',j,none⟩ v=(w.setCell ⟨b',j,none⟩ v).setCell ⟨b,i,none⟩ u:=by
 unfold World.setCell;simp only[];rw[F7 _ _ _ _ _ h]
structure JV (w:World) (y:Tx):Prop where
 rx:RX w y
 tb:FY y
 sz:y.size<=70000
theorem tu:pH JV:=⟨fun W W' y hb h=>⟨h.rx.below hb,h.tb,h.sz⟩,fun W w y k h=>⟨h.rx.sub k,h.tb,h.sz⟩⟩
theorem Q3 {W:World} {b o:Nat} {y:Tx} (h:JV W y) (hj:∀j u,(jj y)[j]?=some u->W.cell? ⟨b,o+j,none⟩=some u):Bu True W b o y:=
 ⟨fun x hx=>Int.le_trans (h.tb x hx) iI,fun _=>jW h.sz iI,⟨hj 0 _ rfl,hj 1 _ rfl,hj 2 _ rfl,hj 3 _ rfl,hj 4 _ rfl,hj 5 _ rfl⟩,h.rx⟩
structure xm (n1 b3:Nat) (F:Nat->Bool) (w:World) (s:ByteArray) (ins outs lo:nB iO) (vA vE:Value) (as_ en_:List Tx):Prop where
 fam:P5 n1 F w
 b3n:b3<n1
 blk:iP w b3 65 #[.string s,ins.val,outs.val,lo.val,.slice none 0 0,.slice none 0 0,vA,vE]
 ri:ir 3 jG (kK F w) ins
 ro:ir 3 jG (kK F w) outs
 rl:ir 3 jG (kK F w) lo
 oa:pP n1 73 6 jj JV F w vA as_
 oe:pP n1 73 6 jj JV F w vE en_
 dif:∀b,vA.ownBlock=some b->vE.ownBlock≠some b
section
variable {n1 b3 q:Nat} {F:Nat->Bool} {w w':World} {s:ByteArray} {ins outs lo:nB iO} {vA vE v':Value} {as_ en_:List Tx}
theorem xm.iv (h:xm n1 b3 F w s ins outs lo vA vE as_ en_) (hq:q<n1) (hb:b3≠q) (a:ik (iz q w) (iz q w')):xm n1 b3 F w' s ins outs lo vA vE as_ en_:=by
 have j:=h.fam.low q hq;have I:=a.below.size;rw[iZ,iZ]at I;have o:=j_ (q:=q) j a;exact⟨h.fam.after I,h.b3n,kq h.blk hb a,h.ri.below iM o.below,h.ro.below iM o.below,h.rl.below iM o.below,h.oa.iv tu hq j a,h.oe.iv tu hq j a,h.dif⟩
theorem xm.after (h:xm n1 b3 F w s ins outs lo vA vE as_ en_) (a:ik w w'):xm n1 b3 F w' s ins outs lo vA vE as_ en_:=by
 have j:ik (kK F w) (kK F w'):=oS a;exact⟨h.fam.after a.below.size,h.b3n,mZ (w:=w) (k:=a) h.blk,h.ri.below iM j.below,h.ro.below iM j.below,h.rl.below iM j.below,h.oa.after tu a,h.oe.after tu a,h.dif⟩
theorem Pp {g n:Nat} {T:TypeId} {cp:Nat} {l:List Tx} (own:w.ownsRow n1 T 6 (.slice (some ⟨g,0,none⟩) (l.length+1) cp) (l.length+1) (l.flatMap jj++jj oE)) (y:Tx) :
  ((((((w.setCell ⟨g,l.length*6,none⟩ (.int .i64 y.kind)).setCell ⟨g,l.length*6+1,none⟩ (.int .i64 y.op)).setCell ⟨g,l.length*6+2,none⟩ (.int .i64 y.ty)).setCell ⟨g,l.length*6+3,none⟩ (.int .i64 y.va)).setCell ⟨g,l.length*6+4,none⟩ (.string y.name)).setCell ⟨g,l.length*6+5,none⟩ (.slice y.ad y.args.length y.cap)).ownsRow n1 T 6 (.slice (some ⟨g,0,none⟩) (l.length+1) cp) (l++[y]).length ((l++[y]).flatMap jj):=by
 have j:=(((((own.stored (l.length*6) (.int .i64 y.kind)).1.stored (l.length*6+1) (.int .i64 y.op)).1.stored (l.length*6+2) (.int .i64 y.ty)).1.stored (l.length*6+3) (.int .i64 y.va)).1.stored (l.length*6+4) (.string y.name)).1.stored (l.length*6+5) (.slice y.ad y.args.length y.cap) |>.1;have e:l.flatMap jj++jj oE=rS (l++[oE]):=by unfold rS;rw[Fa];simp
 have I:(l++[y]).flatMap jj=rS ((l++[oE]).set l.length y):=by unfold rS;rw[List.set_append_right _ _ (js _)];simp
 have o:=AD (l++[oE]) l.length y (by simp);rw[e,o]at j;rw[I,mo];exact j
def od (w:World) (g o:Nat) (y:Tx):World:=(((((w.setCell ⟨g,o,none⟩ (.int .i64 y.kind)).setCell ⟨g,o+1,none⟩ (.int .i64 y.op)).setCell ⟨g,o+2,none⟩ (.int .i64 y.ty)).setCell ⟨g,o+3,none⟩ (.int .i64 y.va)).setCell ⟨g,o+4,none⟩ (.string y.name)).setCell ⟨g,o+5,none⟩ (.slice y.ad y.args.length y.cap)
theorem xr (w:World) {g b:Nat} (h:g≠b) (o j:Nat) (y:Tx) (v:Value):od (w.setCell ⟨b,j,none⟩ v) g o y=(od w g o y).setCell ⟨b,j,none⟩ v:=by
 unfold od;rw[uQ _ h,uQ _ h,uQ _ h,uQ _ h,uQ _ h,uQ _ h]
theorem th (w:World) (g o:Nat) (y:Tx):(od w g o y).heap.size=w.heap.size:=by unfold od;simp only[jc]
theorem KG {v v':Value} {l:List Tx} {y:Tx} (h:pP n1 73 6 jj JV F w v l) (hy:JV (kK F w) y) (own:w'.ownsRow n1 73 6 v' (l.length+1) (l.flatMap jj++jj oE)) (g:w.grownBy w' v.ownBlock) (hb:v'.ownBlock=v.ownBlock\/v'.ownBlock=some w.heap.size) :
  ∃r cp,v'=.slice (some ⟨r,0,none⟩) (l.length+1) cp/\n1<=r/\r<w'.heap.size/\pP n1 73 6 jj JV (iD F v') (od w' r (l.length*6) y) v' (l++[y])/\ik (kK F w) (kK (iD F v') (od w' r (l.length*6) y))/\(v'.ownBlock=some r):=by
 obtain⟨A,cp,rfl,_,_⟩:=ji own;rcases own.2 with⟨_,h0⟩ | ⟨r,cap,cur,hv,hbb,hgg,rest⟩
 ·omega
 injection hv with e1 e2 e3
 subst e1;have I:=own.lt r rfl;have U:=C4 (F:=F) g h.cov hb;have R:iD F (.slice (some ⟨r,0,none⟩) (l.length+1) cp) r=true:=pr rfl;have a6:ik (kK (iD F (.slice (some ⟨r,0,none⟩) (l.length+1) cp)) w') (kK (iD F (.slice (some ⟨r,0,none⟩) (l.length+1) cp)) (od w' r (l.length*6) y)):=by
  unfold od;exact zn R _ _ _ _ _ _ _
 have j:=ij U a6;refine⟨r,cp,rfl,I.1,I.2,?_,j,rfl⟩;refine⟨?_,fun b J=>pr J,fun z o=>?_⟩
 ·unfold od
  exact Pp (n:=0) own y
 refine tu.below _ _ _ j.below ?_;rcases ue.1 o with o | o
 ·exact h.inn z o
 rw[yw.1 o];exact hy
theorem xm.Sy {y:Tx} (h:xm n1 b3 F w s ins outs lo vA vE as_ en_) (hy:JV (kK F w) y) (own:w'.ownsRow n1 73 6 v' (as_.length+1) (as_.flatMap jj++jj oE)) (g:w.grownBy w' vA.ownBlock) (hb:v'.ownBlock=vA.ownBlock\/v'.ownBlock=some w.heap.size) :
  ∃r cp,v'=.slice (some ⟨r,0,none⟩) (as_.length+1) cp/\n1<=r/\r<w'.heap.size/\xm n1 b3 (iD F v') ((od w' r (as_.length*6) y).setCell ⟨b3,6,none⟩ v') s ins outs lo v' vE (as_++[y]) en_:=by
 obtain⟨r,cp,e,h1,h2,ho,a6,o⟩:=KG h.oa hy own g hb;refine⟨r,cp,e,h1,h2,?_⟩;have a1:iD F v' b3=true:=lF (h.fam.low b3 h.b3n);have a3:=kJ a1 (od w' r (as_.length*6) y) 6 v';have aF:=ij a6 a3;have a7:(od w' r (as_.length*6) y).heap.size=w'.heap.size:=th _ _ _ _;have U:∀b,v'.ownBlock=some b->b≠b3:=fun b j=>by rw[o]at j;have:=sI j;have:=h.b3n;omega
 have a8:(od w' r (as_.length*6) y).ownsRow n1 73 6 vE en_.length (en_.flatMap jj):=by
  have h3:=Aq (v:=vA) h.oe.own g fun b j R=>h.dif b R j
  have J:vE.ownBlock≠some r:=fun R=>by
   rcases hb with hb | hb
   ·rw[o]at hb;exact h.dif r hb.symm R
   rw[o]at hb;have:=sI hb;have:=(h.oe.lt R).2;omega
  unfold od;exact kh (kh (kh (kh (kh (kh h3 J _ _) J _ _) J _ _) J _ _) J _ _) J _ _
 refine⟨(h.fam.add (v:=v') g.size fun b j=>by rw[o]at j;have:=sI j;omega).after (by rw[jc,a7];exact js _),h.b3n,?_,h.ri.below iM aF.below,h.ro.below iM aF.below,h.rl.below iM aF.below,ho.lW tu a1 (fun R=>U b3 R rfl) 6 v',h.oe.step tu (kh a8 (fun R=>by have:=(h.oe.lt R).1;have:=h.b3n;omega) 6 v') aF fun b j=>lF j,fun b j R=>?_⟩
 ·have aa:=oY h.blk g fun R=>by have:=(h.oa.lt R.symm).1;have:=h.b3n;omega
  have a':iP (od w' r (as_.length*6) y) b3 65 #[.string s,ins.val,outs.val,lo.val,.slice none 0 0,.slice none 0 0,vA,vE]:=by
   have I:b3≠r:=by have:=h.b3n;omega
   unfold od;exact tV (p:=⟨r,_,none⟩) (tV (p:=⟨r,_,none⟩) (tV (p:=⟨r,_,none⟩) (tV (p:=⟨r,_,none⟩) (tV (p:=⟨r,_,none⟩) (tV (p:=⟨r,_,none⟩) aa I _) I _) I _) I _) I _) I _
  exact a'.jx 6 v'
 rw[o]at j;have a_:=sI j;subst a_;rcases hb with hb | hb
 ·rw[o]at hb;exact h.dif r hb.symm R
 rw[o]at hb;have:=sI hb;have:=(h.oe.lt R).2;omega
theorem xm.Sz {y:Tx} (h:xm n1 b3 F w s ins outs lo vA vE as_ en_) (hy:JV (kK F w) y) (own:w'.ownsRow n1 73 6 v' (en_.length+1) (en_.flatMap jj++jj oE)) (g:w.grownBy w' vE.ownBlock) (hb:v'.ownBlock=vE.ownBlock\/v'.ownBlock=some w.heap.size) :
  ∃r cp,v'=.slice (some ⟨r,0,none⟩) (en_.length+1) cp/\n1<=r/\r<w'.heap.size/\xm n1 b3 (iD F v') ((od w' r (en_.length*6) y).setCell ⟨b3,7,none⟩ v') s ins outs lo vA v' as_ (en_++[y]):=by
 obtain⟨r,cp,e,h1,h2,ho,a6,o⟩:=KG h.oe hy own g hb;refine⟨r,cp,e,h1,h2,?_⟩;have a1:iD F v' b3=true:=lF (h.fam.low b3 h.b3n);have a3:=kJ a1 (od w' r (en_.length*6) y) 7 v';have aF:=ij a6 a3;have a7:(od w' r (en_.length*6) y).heap.size=w'.heap.size:=th _ _ _ _;have U:∀b,v'.ownBlock=some b->b≠b3:=fun b j=>by rw[o]at j;have:=sI j;have:=h.b3n;omega
 have a8:(od w' r (en_.length*6) y).ownsRow n1 73 6 vA as_.length (as_.flatMap jj):=by
  have h3:=Aq (v:=vE) h.oa.own g fun b j R=>h.dif b j R
  have J:vA.ownBlock≠some r:=fun R=>by
   rcases hb with hb | hb
   ·rw[o]at hb;exact h.dif r R hb.symm
   rw[o]at hb;have:=sI hb;have:=(h.oa.lt R).2;omega
  unfold od;exact kh (kh (kh (kh (kh (kh h3 J _ _) J _ _) J _ _) J _ _) J _ _) J _ _
 refine⟨(h.fam.add (v:=v') g.size fun b j=>by rw[o]at j;have:=sI j;omega).after (by rw[jc,a7];exact js _),h.b3n,?_,h.ri.below iM aF.below,h.ro.below iM aF.below,h.rl.below iM aF.below,h.oa.step tu (kh a8 (fun R=>by have:=(h.oa.lt R).1;have:=h.b3n;omega) 7 v') aF fun b j=>lF j,ho.lW tu a1 (fun R=>U b3 R rfl) 7 v',fun b j R=>?_⟩
 ·have aa:=oY h.blk g fun R=>by have:=(h.oe.lt R.symm).1;have:=h.b3n;omega
  have a':iP (od w' r (en_.length*6) y) b3 65 #[.string s,ins.val,outs.val,lo.val,.slice none 0 0,.slice none 0 0,vA,vE]:=by
   have I:b3≠r:=by have:=h.b3n;omega
   unfold od;exact tV (p:=⟨r,_,none⟩) (tV (p:=⟨r,_,none⟩) (tV (p:=⟨r,_,none⟩) (tV (p:=⟨r,_,none⟩) (tV (p:=⟨r,_,none⟩) (tV (p:=⟨r,_,none⟩) aa I _) I _) I _) I _) I _) I _
  exact a'.jx 7 v'
 rw[o]at R;have a_:=sI R;subst a_;rcases hb with hb | hb
 ·rw[o]at hb;exact h.dif r j hb.symm
 rw[o]at hb;have:=sI hb;have:=(h.oa.lt j).2;omega
end
def rZ (y:nh):List Value:=[.string y.name,y.ins.val,y.outs.val,y.locals.val,y.eqs.val,y.autos.val,y.assume.val,y.ensure.val]
structure JY (w:World) (y:nh):Prop where
 nm:y.name.size<=65536
 r1:ir 3 jG w y.ins
 r2:ir 3 jG w y.outs
 r3:ir 3 jG w y.locals
 r4:ir 7 (xv True) w y.eqs
 r5:ir 1 (xM True) w y.autos
 r6:ir 6 (Bu True) w y.assume
 r7:ir 6 (Bu True) w y.ensure
theorem uz:pH JY:=⟨fun W W' y hb h=>⟨h.nm,h.r1.below iM hb,h.r2.below iM hb,h.r3.below iM hb,h.r4.below mX hb,h.r5.below si hb,h.r6.below nH hb,h.r7.below nH hb⟩,fun W w y k h=>⟨h.nm,h.r1.sub ky k,h.r2.sub ky k,h.r3.sub ky k,h.r4.sub uU k,v_ wY h.r5 k,h.r6.sub yO k,h.r7.sub yO k⟩⟩
theorem Q5 {W:World} {b o:Nat} {y:nh} (h:JY W y) (hj:∀j u,(rZ y)[j]?=some u->W.cell? ⟨b,o+j,none⟩=some u):Gy True W b o y:=
 ⟨hj 0 _ rfl,hj 1 _ rfl,hj 2 _ rfl,hj 3 _ rfl,hj 4 _ rfl,hj 5 _ rfl,hj 6 _ rfl,hj 7 _ rfl,jW h.nm iI,h.r1,h.r2,h.r3,h.r4,h.r5,h.r6,h.r7⟩
end
end Go.Proofs.YtnigblndonocfaaGreatDoor
