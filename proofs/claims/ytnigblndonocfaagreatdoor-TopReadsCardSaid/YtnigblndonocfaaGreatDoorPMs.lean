/- A part of the proof. -/
import Derived.Test.YtnigblndonocfaaGreatDoorPRu
set_option linter.unusedVariables false
set_option linter.unusedSimpArgs false
namespace Go.Proofs.YtnigblndonocfaaGreatDoor
set_option maxRecDepth 100000
set_option maxHeartbeats 3200000
open Go.Proofs.Tryz
open Go.RowKit Go.BigFrame
section
section
variable {B:World} {q:Nat} {A:Option Addr} {c:Nat} {L:List Tk} {en:Int} {eA:Option Addr} {ec:Nat} {el:List iW} {w w0 w1:World} {i:Nat}
def BZ (w:World) (z:Bool) (e:Ending) (w':World):Prop:=ik w w'/\((z=true/\e=.returned (.tuple #[]))\/(z=false/\Fl e))
theorem K2 (h:Rd B q A c L en eA ec el w i) (t v:Int) (kn:Bool) (htf:(jq ⟨#[116,114,117,101]⟩ (L.drop i)||jq ⟨#[102,97,108,115,101]⟩ (L.drop i))=true):Calls prog 188 #[.pointer (some q),t,v,.bool kn] w (BZ w (lk el t v kn (L.drop i))):=by
 have J:Hid (lk el t v kn (L.drop i)=!((kn&&!(t==1))||!(jq ⟨#[116,114,117,101]⟩ (L.drop i)==(v==1))||(!kn&&!jq ⟨#[116,114,117,101]⟩ (L.drop i)))):=by
  show _=_
  unfold lk;rw[iG htf]
 have H1:Hid (∀U,ik w U->Calls prog 30 #[.pointer (some q),.string ⟨#[116,114,117,101]⟩] U fun e w'=>e=.returned (.bool (jq ⟨#[116,114,117,101]⟩ (L.drop i)))/\ik U w'):=fun U hU=>nK (h.after hU) _
 have H2:Hid (∀U,ik w U->Calls prog 30 #[.pointer (some q),.string ⟨#[102,97,108,115,101]⟩] U fun e w'=>e=.returned (.bool (jq ⟨#[102,97,108,115,101]⟩ (L.drop i)))/\ik U w'):=fun U hU=>nK (h.after hU) _
 generalize jq ⟨#[116,114,117,101]⟩ (L.drop i)=z1 at H1 J htf;generalize jq ⟨#[102,97,108,115,101]⟩ (L.drop i)=z2 at H2 htf;generalize lk el t v kn (L.drop i)=X at J;obtain⟨zt,R⟩:=jt ((t==1));obtain⟨zv,a6⟩:∃z,(v==1)=z:=⟨_,rfl⟩;rw[R,a6]at J;have a7:(t != 1)=!zt:=by rw[<- R];rfl
 have hb:=iy h.le;have H:=iB h;have I:z1=false->z2=true:=by intro e;rw[e]at htf;simpa using htf
 cases z1
 ·obtain rfl:=I rfl
  cases kn<;>cases zt<;>cases zv <;>
  ·go_in
   go_wp2_with fail;refine (H1 _ inferInstance).mono ?_;rintro e w1 ⟨rfl,a1⟩;go_wp2_with fail;refine (H2 _ a1).mono ?_;rintro e w2 ⟨rfl,a2⟩;have a2:=ij a1 a2;go_wp2_with fail;refine (H1 _ a2).mono ?_;rintro e w3 ⟨rfl,j⟩;have j:=ij a2 j;have R3:=H.after j;obtain⟨c0,c1,c2,c3,f2,l0⟩:=R3.fields;have HF:=iB (nj R3 i (by omega) 5);go_wp2_with fail;first
   |(go_end0
     exact⟨j,.inl ⟨by rw[J.out];rfl,rfl⟩⟩)
   |(refine HF.mono ?_
     rintro e w4 ⟨⟨a,rfl⟩,a4⟩;have o:=jz a 5 iI;unfold oD at o⊢;go_wp2;exact⟨rfl,ij j a4,.inr ⟨by rw[J.out];rfl,o⟩⟩)
 ·clear I
  cases kn<;>cases zt<;>cases zv <;>
  ·go_in
   go_wp2_with fail;refine (H1 _ iR).mono ?_;rintro e w1 ⟨rfl,a1⟩;go_wp2_with fail;refine (H1 _ a1).mono ?_;rintro e w3 ⟨rfl,j⟩;have j:=ij a1 j;have R3:=H.after j;obtain⟨c0,c1,c2,c3,f2,l0⟩:=R3.fields;have HF:=iy (nj R3 i iu 5);go_wp2_with fail;first
   |(go_end0
     exact⟨j,.inl ⟨by rw[J.out];rfl,rfl⟩⟩)
   |(refine HF.mono ?_
     rintro e w4 ⟨⟨a,rfl⟩,a4⟩;have o:=jz a 5 iI;unfold oD at o⊢;go_wp2;exact⟨rfl,ij j a4,.inr ⟨by rw[J.out];rfl,o⟩⟩)
theorem Lv (h:Rd B q A c L en eA ec el w i) (t v:Int) (kn:Bool) (htf:(jq ⟨#[116,114,117,101]⟩ (L.drop i)||jq ⟨#[102,97,108,115,101]⟩ (L.drop i))=false):Calls prog 188 #[.pointer (some q),t,v,.bool kn] w (BZ w (lk el t v kn (L.drop i))):=by
 have I:Hid (lk el t v kn (L.drop i)=(ju 1 (L.drop i)&&(match qh el (Cb (L.drop i)) with
  |some (u,x)=>!((kn&&(!(u==t)||!(x==v)))||(!kn&&!(x==0)))
  |none=>!kn))):=by
  show _=_
  unfold lk;rw[iV (by rw[htf];exact yE)];rfl
 have H1:Hid (∀U,ik w U->Calls prog 30 #[.pointer (some q),.string ⟨#[116,114,117,101]⟩] U fun e w'=>e=.returned (.bool (jq ⟨#[116,114,117,101]⟩ (L.drop i)))/\ik U w'):=fun U j=>nK (h.after j) _
 have H2:Hid (∀U,ik w U->Calls prog 30 #[.pointer (some q),.string ⟨#[102,97,108,115,101]⟩] U fun e w'=>e=.returned (.bool (jq ⟨#[102,97,108,115,101]⟩ (L.drop i)))/\ik U w'):=fun U j=>nK (h.after j) _
 have H3:Hid (∀U,ik w U->Calls prog 34 #[.pointer (some q),.int .i64 1] U fun e w'=>e=.returned (.bool (ju 1 (L.drop i)))/\ik U w'):=fun U j=>qv (h.after j) _
 rw[Bool.or_eq_false_iff]at htf;rw[htf.1]at H1;rw[htf.2]at H2;have a':ju 1 (L.drop i)=true->i<L.length:=rX;generalize ju 1 (L.drop i)=zk at H3 I a';obtain⟨b1,b2,b3,b4⟩:=h.bounds;cases zk
 ·have I:Hid (lk el t v kn (L.drop i)=false):=I
  generalize lk el t v kn (L.drop i)=X at I;have H:=iy h;go_in;go_wp2_with fail;refine (H1 _ iR).mono ?_;rintro e w1 ⟨rfl,a1⟩;go_wp2_with fail;refine (H2 _ a1).mono ?_;rintro e w2 ⟨rfl,a2⟩;have a2:=ij a1 a2;go_wp2_with fail;refine (H3 _ a2).mono ?_;rintro e w3 ⟨rfl,o⟩;have o:=ij a2 o;have R3:=H.after o;obtain⟨c0,c1,c2,c3,f2,l0⟩:=R3.fields;have HF:=iB (nj R3 i (by omega) 5);go_wp2_with fail;refine HF.mono ?_;rintro e w4 ⟨⟨a,rfl⟩,a4⟩;have R:=jz a 5 (by decide);unfold oD at R⊢;go_wp2;exact⟨rfl,ij o a4,.inr ⟨I,R⟩⟩
 have hi:=a' rfl;have ag:(i:Int)<(L.length:Int):=iu;obtain⟨tk,a_⟩:∃t,L[i]?=some t:=⟨_,qn hi⟩;have aa:Cb (L.drop i)=tk.text:=by rw[oU a_];rfl
 rw[aa]at I;have H4:Hid (∀U,ik w U->Calls prog 176 #[.pointer (some q),.string tk.text] U (Sm U (qh el tk.text))):=fun U j=>ED (h.after j) _
 have HT:=iy a_;generalize lk el t v kn (L.drop i)=X at I;have H:=iy h;obtain⟨V1,V2,V3,hV,hF⟩:∃(u x:Int) (ok:Bool),Hid (∀U,ik w U->Calls prog 176 #[.pointer (some q),.string tk.text] U fun e w'=>e=.returned (.tuple #[u,x,.bool ok])/\ik U w')/\Hid (X=!((kn&&(!ok||!(u==t)||!(x==v)))||(ok&&!kn&&!(x==0)))):=by
  revert I H4;cases qh el tk.text with
  |none=>
   intro H4 I;refine⟨0,0,false,fun U j=>(H4 U j).mono fun e w' h=>⟨h.2,h.1⟩,?_⟩;show _=_
   rw[I.out];cases kn<;>rfl
  |some p=>
  obtain⟨u,x⟩:=p;intro H4 I;refine⟨u,x,true,fun U j=>(H4 U j).mono fun e w' h=>⟨h.2,h.1⟩,?_⟩;show _=_
  rw[I.out];cases kn<;>simp
 obtain⟨zu,a7⟩:=jt ((V1==t));obtain⟨zx,a6⟩:∃z,(V2==v)=z:=⟨_,rfl⟩;obtain⟨z0,a8⟩:∃z,(V2==0)=z:=⟨_,rfl⟩;rw[a7,a6,a8]at hF;have ae:(V1 != t)=!zu:=by rw[<- a7];rfl
 have ad:(V2 != v)=!zx:=by rw[<- a6];rfl
 have af:(V2 != 0)=!z0:=by rw[<- a8];rfl
 obtain⟨zr,J⟩:∃z,(!((kn&&(!V3||!zu||!zx))||(V3&&!kn&&!z0)))=z:=⟨_,rfl⟩;rw[J]at hF;go_in;go_wp2_with fail;refine (H1 _ inferInstance).mono ?_;rintro e w1 ⟨rfl,a1⟩;go_wp2_with fail;refine (H2 _ a1).mono ?_;rintro e w2 ⟨rfl,a2⟩;have a2:=ij a1 a2;go_wp2_with fail;refine (H3 _ a2).mono ?_;rintro e w3 ⟨rfl,o⟩;have o:=ij a2 o;have R3:=H.after o;obtain⟨c0,c1,c2,c3,f2,l0⟩:=R3.fields;obtain⟨b,p,kd,t',n,rfl,hl,hy,ht,hn,t0,t1,t2⟩:=R3.at_ hi;have ab:t'=tk.text:=by have:=sI (HT.symm.trans hy);rw[this]
 rw[ab]at t1;have HF:Hid (∀U,ik w3 U->Calls prog 37 #[.pointer (some q),.int .i64 (i:Nat),.int .i64 5] U fun e w'=>(∃a:Int,e=oD a 5)/\ik U w'):=fun U j=>nj (H.after (ij o j)) i (by omega) 5
 have hV:Hid (∀U,ik w3 U->Calls prog 176 #[.pointer (some q),.string tk.text] U fun e w'=>e=.returned (.tuple #[V1,V2,.bool V3])/\ik U w'):=fun U j=>hV U (ij o j)
 go_wp2_with fail;refine iE (by kernel_rfl) (by kernel_rfl) ?_;repeat (go_big_quiet_step ((go_at_call 176;exact mR ((hV _ inferInstance).mono fun e w' h=>⟨h.1,jP _ _ (h:=h.2)⟩))))
 refine wpQuiet_nil ?_;rintro _ ⟨y_,rfl⟩;go_wp2_with fail;all_goals first
 |(refine (HF _ inferInstance).mono ?_
   rintro e w4 ⟨⟨a,rfl⟩,a4⟩;have R:=jz a 5 (by decide);unfold oD at R⊢;go_wp2;exact⟨rfl,ij (ij (w2:=w3.more y_) o inferInstance) a4,.inr ⟨by (rw[hF.out,<- J];clear J hF hV HF;simp_all),R⟩⟩)
 |(go_end0
   exact⟨ij (w2:=w3.more y_) o iR,.inl ⟨by (rw[hF.out,<- J];clear J hF hV HF;simp_all),rfl⟩⟩)
theorem vt (h:Rd B q A c L en eA ec el w i) (t v:Int) (kn:Bool):Calls prog 188 #[.pointer (some q),t,v,.bool kn] w (BZ w (lk el t v kn (L.drop i))):=by
 cases hz:(jq ⟨#[116,114,117,101]⟩ (L.drop i)||jq ⟨#[102,97,108,115,101]⟩ (L.drop i)) with
 |true=>exact K2 h t v kn hz
 |false=>exact Lv h t v kn hz
end
end
section
def kK (S:Nat->Bool) (w:World):World:={ w with heap:=w.heap.mapIdx fun i o=>if S i then .cells #[] 0 (0,0) else o }
section
variable {q n m:Nat} {S S':Nat->Bool} {w w':World}
theorem pt (S:Nat->Bool) (w:World):(kK S w).heap.size=w.heap.size:=by simp[kK]
theorem xk (w:World) {b:Nat} (h:S b=false):(kK S w).heap[b]?=w.heap[b]?:=by
 unfold kK;simp only[Array.getElem?_mapIdx];cases w.heap[b]? with
 |none=>rfl
 |some o=>simp[h]
theorem CY (w:World) {b:Nat} (h:S b=true) (hb:b<w.heap.size):(kK S w).heap[b]?=some (.cells #[] 0 (0,0)):=by
 unfold kK;simp only[Array.getElem?_mapIdx,Array.getElem?_eq_getElem hb,Option.map_some,iG h]
theorem IZ (w:World) {b o:Nat} {v:Value} (h:S b=true) (hc:(kK S w).cell? ⟨b,o,none⟩=some v):False:=by
 have j:=World.block_lt_of_cell? (kK S w) ⟨b,o,none⟩ hc;rw[pt]at j;rw[cell_of_row (kK S w) b o #[] 0 (0,0) (CY w h j)]at hc;simp at hc
theorem wF (w:World) {b o:Nat} (h:S b=false):(kK S w).cell? ⟨b,o,none⟩=w.cell? ⟨b,o,none⟩:=
 Dj (w:=w) (w':=kK S w) (a:=⟨b,o,none⟩) (xk w h)
theorem Ov (S:Nat->Bool) (w:World):CU (kK S w) w:=by
 refine⟨lI (pt S w),fun b o v h=>?_⟩;cases e:S b with
 |true=>exact (IZ w e h).elim
 |false=>rwa [wF w e]at h
theorem rp (h:∀b,S b=true->S' b=true) (w:World):CU (kK S' w) (kK S w):=by
 refine⟨by rw[pt,pt];exact js _,fun b o v j=>?_⟩;cases e:S' b with
 |true=>exact (IZ w e j).elim
 |false=>
 have I:S b=false:=by
  cases hs:S b with
  |false=>rfl
  |true=>rw[h b hs]at e;cases e
 rw[wF w e]at j;rwa [wF w I]
theorem nO (w:World) (h:∀b,S b=true->b<n):CU (old n w) (kK S w):=by
 refine⟨by rw[ku,pt];exact js _,fun b o v j=>?_⟩;by_cases e:b<n
 ·exact (C9 w e j).elim
 have I:S b=false:=by
  cases hs:S b with
  |false=>rfl
  |true=>exact absurd (h b hs) e
 rw[wF w I];exact (vk n w).cell _ _ _ j
theorem sZ (w:World) (h:∀b,b<n->S b=true):CU (kK S w) (old n w):=by
 refine⟨by rw[ku,pt];exact js _,fun b o v I=>?_⟩;cases e:S b with
 |true=>exact (IZ w e I).elim
 |false=>
 have J:n<=b:=by
  rcases qa b n with j | j
  ·rw[h b j]at e;cases e
  exact j
 rw[wF w e]at I;rwa [Dj (w:=w) (w':=old n w) (a:=⟨b,o,none⟩) (lV w J)]
theorem vx (os:w'.os=w.os) (tape:w'.tape=w.tape) (output:w'.output=w.output) (size:w.heap.size<=w'.heap.size) (h:∀b,b<w.heap.size->S b=S' b/\(S b=false->w'.heap[b]?=w.heap[b]?)):ik (kK S w) (kK S' w'):=by
 refine⟨⟨os,tape,output,by rw[pt,pt];exact size,fun b j=>?_⟩⟩;rw[pt]at j;obtain⟨o,I⟩:=h b j;cases e:S b with
 |true=>rw[CY w e j,CY w' (by rw[<- o];exact e) (rO j size)]
 |false=>rw[xk w e,xk w' (by rw[<- o];exact e)];exact I e
theorem oS (a:ik w w'):ik (kK S w) (kK S w'):=
 vx a.below.os a.below.tape a.below.output a.below.size fun b hb=>⟨rfl,fun _=>a.below.block b hb⟩
theorem j_ (hq:S q=true) (a:ik (iz q w) (iz q w')):ik (kK S w) (kK S w'):=by
 have o:=a.below.size;rw[iZ,iZ]at o;refine vx a.below.os a.below.tape a.below.output o fun b I=>⟨rfl,fun e=>?_⟩
 have j:b≠q:=by rintro rfl;rw[hq]at e;cases e
 have:=a.below.block b (by rw[iZ];exact I);rwa [km w' j,km w j]at this
theorem kJ {r:Nat} (h:S r=true) (w:World) (i:Nat) (v:Value):ik (kK S w) (kK S (w.setCell ⟨r,i,none⟩ v)):=
 vx rfl rfl rfl (by rw[jc];exact js _) fun b hb=>⟨rfl,fun e=>Below.heap_setCell w _ v b (by show b≠r;rintro rfl;rw[h]at e;cases e)⟩
theorem xo {row:Option Nat} (h:w.grownBy w' row) (hr:∀g,row=some g->S g=true):ik (kK S w) (kK S w'):=
 vx h.os h.tape h.output h.size fun b hb=>⟨rfl,fun e=>h.block b hb (by rintro rfl;rw[hr b rfl]at e;cases e)⟩
theorem zn {r i:Nat} (h:S r=true) (w:World) (u0 u1 u2 u3 u4 u5:Value):ik (kK S w) (kK S ((((((w.setCell ⟨r,i,none⟩ u0).setCell ⟨r,i+1,none⟩ u1).setCell ⟨r,i+2,none⟩ u2).setCell ⟨r,i+3,none⟩ u3).setCell ⟨r,i+4,none⟩ u4).setCell ⟨r,i+5,none⟩ u5)):=
 ij (ij (ij (ij (ij (kJ h _ _ _) (kJ h _ _ _)) (kJ h _ _ _)) (kJ h _ _ _)) (kJ h _ _ _)) (kJ h _ _ _)
end
def rS (ys:List Tx):List Value:=ys.flatMap jj
theorem AD:∀(ys:List Tx) (k:Nat) (y:Tx),k<ys.length->(((((((rS ys).set (k*6) (.int .i64 y.kind)).set (k*6+1) (.int .i64 y.op)).set (k*6+2) (.int .i64 y.ty)).set (k*6+3) (.int .i64 y.va)).set (k*6+4) (.string y.name)).set (k*6+5) (.slice y.ad y.args.length y.cap))=rS (ys.set k y)
 |[],k,y,h=>by simp at h
 |a::ys,0,y,h=>by
  simp only[rS,pZ,jj,lP,sb,zH,t_,oB,oq]
 |a::ys,k+1,y,h=>by
  have ih:=AD ys k y (by simpa using h);have e:∀j,(k+1)*6+j=(k*6+j)+1+1+1+1+1+1:=fun j=>by omega
  have e0:(k+1)*6=(k*6)+1+1+1+1+1+1:=iu;simp only[rS]at ih⊢;simp only[e,e0,pZ,jj,lP,sb,oq];rw[ih]
theorem BY:∀(ys:List Tx) (k j:Nat) (y:Tx) (v:Value),ys[k]?=some y->(jj y)[j]?=some v->(rS ys)[k*6+j]?=some v
 |[],k,j,y,v,h,_=>by simp at h
 |a::ys,0,j,y,v,h,hv=>by
  simp at h;subst h;rw[rS,pZ,zH,t_,wk (rq.1 hv).1];exact hv
 |a::ys,k+1,j,y,v,h,hv=>by
  have ih:=BY ys k j y v (by simpa using h) hv;rw[rS,pZ,xK (by show 6<=_;omega)];show (rS ys)[(k+1)*6+j-6]?=_
  rw[show (k+1)*6+j-6=k*6+j by omega];exact ih
def pR (w:World) (g:Nat) (ys:List Tx):Prop:=iP w g 73 (rS ys).toArray
section
variable {w:World} {g:Nat} {ys:List Tx}
theorem pR.cells (h:pR w g ys) {k:Nat} (hk:k<ys.length):∃y:Tx,w.cell? ⟨g,k*6,none⟩=some (.int .i64 y.kind)/\w.cell? ⟨g,k*6+1,none⟩=some (.int .i64 y.op)/\w.cell? ⟨g,k*6+2,none⟩=some (.int .i64 y.ty)/\w.cell? ⟨g,k*6+3,none⟩=some (.int .i64 y.va)/\w.cell? ⟨g,k*6+4,none⟩=some (.string y.name)/\w.cell? ⟨g,k*6+5,none⟩=some (.slice y.ad y.args.length y.cap):=by
 have o:=qn hk;have e:∀j v,(jj ys[k])[j]?=some v->w.cell? ⟨g,k*6+j,none⟩=some v:=fun j v I=>by
  rw[uJ h,<- Array.getElem?_toList];exact BY ys k j _ v o I
 exact⟨ys[k],e 0 _ rfl,e 1 _ rfl,e 2 _ rfl,e 3 _ rfl,e 4 _ rfl,e 5 _ rfl⟩
theorem pR.store (h:pR w g ys) {k:Nat} (hk:k<ys.length) (y:Tx):pR ((((((w.setCell ⟨g,k*6,none⟩ (.int .i64 y.kind)).setCell ⟨g,k*6+1,none⟩ (.int .i64 y.op)).setCell ⟨g,k*6+2,none⟩ (.int .i64 y.ty)).setCell ⟨g,k*6+3,none⟩ (.int .i64 y.va)).setCell ⟨g,k*6+4,none⟩ (.string y.name)).setCell ⟨g,k*6+5,none⟩ (.slice y.ad y.args.length y.cap)) g (ys.set k y):=by
 have j:=(((((Hg h (k*6) (.int .i64 y.kind)).jx (k*6+1) (.int .i64 y.op)).jx (k*6+2) (.int .i64 y.ty)).jx (k*6+3) (.int .i64 y.va)).jx (k*6+4) (.string y.name)).jx (k*6+5) (.slice y.ad y.args.length y.cap);simp only[oF]at j;rw[AD ys k y hk]at j;exact j
theorem pR.rx (h:pR w g ys) (hr:∀y∈ys,RX w y) (hl:ys.length<=65536) (k o t v:Int) (s:ByteArray) (hs:s.size<=65536):RX w (.mk k o t v s (some ⟨g,0,none⟩) ys.length ys):=xS h hr hl k o t v s hs
end
theorem pU (ys:List Tx):(rS ys).length=ys.length*6:=by
 induction ys with
 |nil=>rfl
 |cons a ys ih=>rw[rS,pZ,mo];show 6+(rS ys).length=_;rw[ih,py];omega
theorem I9 (n:Nat):(madeCells (Value.cells (.agg #[.int .i64 0,.int .i64 0,.int .i64 0,.int .i64 0,.string ByteArray.empty,.slice none 0 0])) (n*6)).toList=rS (List.replicate n oE):=by
 apply List.ext_getElem?;intro i;rcases qa i (n*6) with I | I
 ·have J:i / 6<n:=iu
  have o:i % 6<6:=Nat.mod_lt _ (by decide);have e:i=i / 6*6+i % 6:=iu;have h1:(List.replicate n oE)[i / 6]?=some oE:=by simp[J]
  have U:(jj oE)[i % 6]?=some ((jj oE)[i % 6]'o):=qn o;rw[e,BY _ _ _ _ _ h1 U,<- e];have R:(madeCells (Value.cells (.agg #[.int .i64 0,.int .i64 0,.int .i64 0,.int .i64 0,.string ByteArray.empty,.slice none 0 0])) (n*6)).toList[i]?=some ((#[Value.int .i64 0,.int .i64 0,.int .i64 0,.int .i64 0,.string ByteArray.empty,.slice none 0 0]:Array Value)[i % 6]!):=by
   simp[madeCells,Value.cells,I]
  rw[R];generalize i % 6=j at o⊢
  match j,o with
  |0,_=>rfl
  |1,_=>rfl
  |2,_=>rfl
  |3,_=>rfl
  |4,_=>rfl
  |5,_=>rfl
 rw[LH (by rw[Array.length_toList,size_madeCells];exact I),LH (by rw[pU,IV];exact I)]
theorem pR.KT {w:World} {g n B:Nat} {z:Value} (hz:z=.agg #[.int .i64 0,.int .i64 0,.int .i64 0,.int .i64 0,.string ByteArray.empty,.slice none 0 0]) (h:w.ownsRow B 73 6 (.slice (some g) n n) n (madeCells z.cells (n*6)).toList):pR w g (List.replicate n oE):=by
 subst hz;rw[I9]at h;rcases h.2 with⟨h1,_⟩ | ⟨g',cap,cur,hv,_,hh,_,_,hsz,htk⟩
 ·cases h1
 injection hv with e1 e2 e3
 injection e1 with e1
 injection e1 with e1
 subst e1;subst e3;have:cur=(rS (List.replicate n oE)).toArray:=by
  apply Array.toList_inj.1;have o:cur.toList.length=n*6:=by simpa using hsz
  first
  |(rw[<- htk,Dn (by omega)])
  |(have j:=htk;simp at j;rw[Dn (by omega)]at j;simpa using j)
 unfold pR;rw[<- this];exact hh
end
end Go.Proofs.YtnigblndonocfaaGreatDoor
