/- A part of the proof. -/
import Derived.Test.YtnigblndonocfaaGreatDoorERForm
import Derived.RangeFuncNested
import Derived.RangeFuncBound
import Derived.RangeFuncCalls
import Derived.RangeFuncLeaves
import Derived.RangeFuncFrom
import Derived.Shelf.Abstract
import Derived.Shelf.RegionOpen
import Derived.WalkKit
import Derived.OwnWalkIn
import Derived.TacticsInMore
import Derived.LoopNIn
import Derived.LoopIn
set_option linter.unusedVariables false
set_option linter.unusedSimpArgs false
namespace Go.Proofs.YtnigblndonocfaaGreatDoor
set_option maxRecDepth 100000
set_option maxHeartbeats 4000000
theorem JQ (k o t z:Int) (s:ByteArray) (A:Option Addr) (c:Nat) (xs:List Tx):(Tx.mk k o t z s A c xs).val=.agg #[.int .i64 k,.int .i64 o,.int .i64 t,.int .i64 z,.string s,.slice A xs.length c]:=rfl
theorem txs (k o t z:Int) (s:ByteArray) (A:Option Addr) (c:Nat) (xs:List Tx):(Tx.mk k o t z s A c xs).kind=k/\(Tx.mk k o t z s A c xs).op=o/\(Tx.mk k o t z s A c xs).ty=t/\(Tx.mk k o t z s A c xs).va=z/\(Tx.mk k o t z s A c xs).name=s/\(Tx.mk k o t z s A c xs).ad=A/\(Tx.mk k o t z s A c xs).args=xs/\(Tx.mk k o t z s A c xs).cap=c:=⟨rfl,rfl,rfl,rfl,rfl,rfl,rfl,rfl⟩
section
open Go.Proofs.Tryz
open Go.RowKit Go.Shelf
attribute [local go_sem] Oper.semAt_some
abbrev H9 (w0:World):Type:={ x:Tx // RX w0 x }
structure ti (n₀ B:Nat) (W W':World):Prop where
 below:Below n₀ W W'
 keep:∀(k:Nat) (ob:Obj),B<=k->W.heap[k]?=some ob->ob.isCells=true->W'.heap[k]?=some ob
theorem ti.refl (n₀ B:Nat) (W:World):ti n₀ B W W:=⟨Below.refl _ _,fun _ _ _ h _=>h⟩
theorem ti.trans {n₀ B:Nat} {a b c:World} (h:ti n₀ B a b) (k:ti n₀ B b c):ti n₀ B a c:=⟨h.below.trans k.below,fun i ob hi ho hc=>k.keep i ob hi (h.keep i ob hi ho hc) hc⟩
theorem ti.PY {n₀ B:Nat} {w:World} (hn:n₀<=w.heap.size) (W:World) (l:Nat) (ob ob':Obj) (hl:w.heap.size<=l) (h:W.heap[l]?=some ob) (h1:ob.isCells=false) (h2:ob.isWalk=false):ti n₀ B W (W.putObj l ob'):=by
 refine⟨belowK_b hn W l ob ob' hl h h1 h2,fun k o R j J=>?_⟩;have I:k≠l:=fun e=>by subst e;rw[h]at j;cases j;rw[h1]at J;cases J
 exact ((grownBy_putObj' W l ob').block k (Array.getElem?_eq_some_iff.1 j).1 (fun e=>I (by cases e;rfl))).trans j
theorem ti.after {n₀ B:Nat} {W W':World} (hn:n₀<=W.heap.size) (k:ik W W'):ti n₀ B W W':=
 ⟨k.below.mono hn,fun i ob hi ho hc=>(k.below.block i (Array.getElem?_eq_some_iff.1 ho).1).trans ho⟩
theorem ti.set {n₀ B b:Nat} {W:World} (h1:n₀<=b) (h2:b<B) (i:Nat) (v:Value):ti n₀ B W (W.setCell ⟨b,i,none⟩ v):=
 ⟨(Below.refl _ _).setCell (p:=⟨b,i,none⟩) h1 v,fun k ob hk ho hc=>(Below.heap_setCell W ⟨b,i,none⟩ v k (fun e=>by simp at e;omega)).trans ho⟩
theorem ti.blk {n₀ B:Nat} {W W':World} (h:ti n₀ B W W') {g:Nat} {t:TypeId} {cs:Array Value} (hg:B<=g) (b:iP W g t cs):iP W' g t cs:=h.keep g _ hg b rfl
theorem ti.aft {B:Nat} {w0 W W':World} (h:ti w0.heap.size B W W') (a:ik w0 W):ik w0 W':=⟨a.below.trans h.below⟩
theorem AI {F:Fence} (hd:F.depth=none) {m:Nat} (m':Nat) {P:Program} {l:Nat} {args:Array Value} {W:World} {R:Ending->World->Prop} (h:YieldAt F m P l args W R):YieldAt F m' P l args W R:=by
 obtain⟨fn,o,j,I,U,J⟩:=h;exact⟨fn,o,j,I,U,J.1,fun c cs _=>J.2 c cs (fun d h=>by rw[hd]at h;cases h)⟩
def Nb {w0:World} (B:Nat) (J Jx:List (H9 w0)->World->Prop) (ph:List (H9 w0)) (l:List Tx) (W:World) (e:Ending) (W':World):Prop:=
 (e=.returned (.bool true)/\(∃ys:List (H9 w0),ys.map (·.1)=l/\J (ph++ys) W')/\ti w0.heap.size B W W')\/(e=.returned (.bool false)/\∃q:List (H9 w0),q.map (·.1) <+: l/\Jx (ph++q) W')
theorem O' (F:Fence) (hd:F.depth=none) (hf:F.fn 162) (hro:F.round=none) (l B N Bj:Nat) (w0:World) (J Jx:List (H9 w0)->World->Prop) (hJ:AbidesFrom Bj J)
  (hY:∀m ph (x:H9 w0) W,J ph W->ph.length<N->YieldAt F m prog l #[x.1.val] W fun e W'=>
   (e=.returned (.bool true)/\J (ph++[x]) W'/\ti w0.heap.size B W W')\/(e=.returned (.bool false)/\Jx (ph++[x]) W')) (M:Nat) :
  ∀(k o t v:Int) (s:ByteArray) (A:Option Addr) (c:Nat) (xs:List Tx),(Tx.mk k o t v s A c xs).size<=M->RX w0 (.mk k o t v s A c xs)->∀(n:Nat) (ph:List (H9 w0)) (W:World),ik w0 W->B<=W.heap.size->J ph W->ph.length+(Tx.mk k o t v s A c xs).size<=N ->
   CallsIn F n prog 162 #[.agg #[k,o,t,v,s,.slice A xs.length c],.func (.yield l) #[] #[]] W (Nb B J Jx ph (Tx.mk k o t v s A c xs).list W):=by
 induction M with
 |zero=>
  intro k o t v s A c xs hs;simp[Tx.size]at hs
 |succ M ih=>
 intro k o t v s A c xs hs x n ph W a' hB h0 hN;rw[Tx.size]at hs hN;rw[Tx.list];have ab:=x.bounds;simp only[Tx.args,Tx.cap,Tx.name]at ab;obtain⟨aB,aA,az,ay⟩:=ab;have aH:∀i:Nat,(F.depth.isSome=true->1<=i):=fun i h=>by rw[hd]at h;cases h
 have a6:∀(q:List (H9 w0)) (U:World) (ob:Obj),J q U->J q (U.alloc ob):=fun q U ob h=>hJ q U _ none h (World.grownBy_alloc U ob none) (fun r e=>by cases e)
 obtain⟨g,hg⟩:∃g,W.heap.size=g:=⟨_,rfl⟩;obtain⟨W1,aK,I,k1,j1⟩:∃W1,W.alloc (.cells #[k,o,t,v,s,.slice A xs.length c] 73)=W1/\iP W1 g 73 #[k,o,t,v,s,.slice A xs.length c]/\ik W W1/\J ph W1:=⟨_,rfl,by rw[<- hg];exact jC _ _ _,inferInstance,a6 _ _ _ h0⟩;have a1:ik w0 W1:=ij a' k1;obtain⟨fn,aw,ae,aC,hy,hR⟩:=hY (n-1) ph ⟨_,x⟩ W1 j1 (by omega);simp only[Tx.val,txs]at hy;have a7:B<=g:=by omega
 have c0:W1.cell? g=some (.int .i64 k):=by rw[I.cell];rfl
 have c1:W1.cell? ⟨g,1,none⟩=some (.int .i64 o):=by rw[I.cell];rfl
 have c2:W1.cell? ⟨g,2,none⟩=some (.int .i64 t):=by rw[I.cell];rfl
 have c3:W1.cell? ⟨g,3,none⟩=some (.int .i64 v):=by rw[I.cell];rfl
 have c4:W1.cell? ⟨g,4,none⟩=some (.string s):=by rw[I.cell];rfl
 have c5:W1.cell? ⟨g,5,none⟩=some (.slice A xs.length c):=by rw[I.cell];rfl
 have l1:=I.is_le;have K1:ti w0.heap.size B W W1:=ti.after a'.below.size k1;replace I:=iB I;replace a6:=iB a6;replace ih:=iB ih;replace x:=iB x;replace K1:=iB K1;replace hY:=iB hY;refine callsIn_of_wp func162 rfl hf ?_ hro;simp only[ntmps162,Fu,py,wJ,Nat.reduceAdd,Nat.reduceSub,Fw,EO,EY,FK,sb,lP]
 gi_wp2
 refine hR.mono ?_;rintro e W2 (⟨rfl,j2,k2⟩ | ⟨rfl,ag⟩)
 ·replace K1:=iy (K1.trans k2)
  have a2:=k2.aft a1;replace I:=iy (k2.blk a7 I);have d5:W2.cell? ⟨g,5,none⟩=some (.slice A xs.length c):=by rw[I.out.cell];rfl
  have l2:=I.is_le;have aL:=jW a7 (CQ I.lt)
  gi_wp2
  gi_loopw [14] (fun i wr=>∃(j:Nat) (ys:List (H9 w0)),j<=xs.length/\i=.int .i64 (j:Nat)/\Hid (ys.map (·.1)=Tx.mk k o t v s A c xs::Tx.lists (xs.take j))/\Hid (J (ph++ys) wr)/\Hid (ti w0.heap.size B W wr)/\Hid (iP wr g 73 #[k,o,t,v,s,.slice A xs.length c])) (fun i _=>xs.length-(intOf i).toNat)
  case atStart=>exact⟨0,[⟨_,x⟩],by omega,rfl,by show _=_;simp[Tx.lists],j2,K1,I⟩
  case round=>
  obtain⟨j,ys,hj,rfl,HM,HJ,K1,I⟩:=hrel;have a2:ik w0 wr:=K1.aft a';have d5:wr.cell? ⟨g,5,none⟩=some (.slice A xs.length c):=by rw[I.out.cell];rfl
  have l2:=I.is_le;have al:B<=wr.heap.size:=jW a7 (CQ I.lt);by_cases ai:j<xs.length
  ·have ax:(j:Int)<(xs.length:Int):=by omega
   obtain⟨b,p,k1,o1,t1,v1,s1,A1,c1,R,rfl,aI,a8,aM,e0,e1,e2,e3,e4,e5⟩:=(x.here wr).part (i:=j) ai;have ak:RX w0 (.mk k1 o1 t1 v1 s1 A1 c1 R):=x.all _ (om a8);have aF:=Tx.sizes_take a8;have aG:=Tx.sizes_mem a8;have aE:=Tx.sizes_take_le xs (j+1);have aD:ys.length=Tx.sizes (xs.take j)+1:=by have:=nQ List.length HM;rw[pE,py,Tx.lists_length]at this;exact this
   have ad:=iB (Tx.lists_take a8);have ar:Hid ((ph++ys).length+(Tx.mk k1 o1 t1 v1 s1 A1 c1 R).size<=N):=by show _<=_;rw[mo];omega
   have au:Hid ((Tx.mk k1 o1 t1 v1 s1 A1 c1 R).size<=M):=by show _<=_;omega
   obtain⟨g2,aj⟩:=jt (wr.heap.size);obtain⟨W3,aJ,b3,k3,j3⟩:∃W3,wr.alloc (.cells #[k1,o1,t1,v1,s1,.slice A1 R.length c1] 73)=W3/\Hid (iP W3 g2 73 #[k1,o1,t1,v1,s1,.slice A1 R.length c1])/\ik wr W3/\Hid (J (ph++ys) W3):=⟨_,rfl,by rw[<- aj];exact jC _ _ _,iR,a6 _ _ _ HJ⟩;have a3:ik w0 W3:=ij a2 k3;have an:B<=W3.heap.size:=jW al k3.below.size;have f0:W3.cell? g2=some (.int .i64 k1):=by rw[b3.out.cell];rfl
   have f1:W3.cell? ⟨g2,1,none⟩=some (.int .i64 o1):=by rw[b3.out.cell];rfl
   have f2:W3.cell? ⟨g2,2,none⟩=some (.int .i64 t1):=by rw[b3.out.cell];rfl
   have f3:W3.cell? ⟨g2,3,none⟩=some (.int .i64 v1):=by rw[b3.out.cell];rfl
   have f4:W3.cell? ⟨g2,4,none⟩=some (.string s1):=by rw[b3.out.cell];rfl
   have f5:W3.cell? ⟨g2,5,none⟩=some (.slice A1 R.length c1):=by rw[b3.out.cell];rfl
   have l3:=b3.is_le;have HC:=iB (ih k1 o1 t1 v1 s1 A1 c1 R au ak (n-1) (ph++ys) W3 a3 an j3 ar);have K3:=iB (K1.trans (ti.after a2.below.size k3));have aq:=iB (I.after (w':=W3))
   gi_wp2_with fail
   refine HC.mono ?_;rintro e W4 (⟨rfl,⟨a_,ah,j4⟩,k4⟩ | ⟨rfl,q,hq,af⟩)
   ·have av:Hid ((ys++a_).map (·.1)=Tx.mk k o t v s (some ⟨b,p,none⟩) c xs::Tx.lists (xs.take (j+1))):=by show _=_;rw[s_,HM.out,ah,ad.out,lP]
    have aa:Hid (J (ph++(ys++a_)) W4):=by rw[<- kD];exact j4
    have K4:=iy (K3.trans k4);have ao:=iy (k4.blk a7 aq)
    gi_wp2
    go_roundw
    case rel=>exact⟨j+1,ys++a_,iu,by go_num,av,aa,K4,ao⟩
    case measure=>simp[intOf];omega
   have HP:Hid ((ys++q).map (·.1) <+: Tx.mk k o t v s (some ⟨b,p,none⟩) c xs::Tx.lists xs):=by
    have h2:=Tx.lists_append (xs.take (j+1)) (xs.drop (j+1));rw[Gv,ad.out]at h2;show _ <+: _
    rw[s_,HM.out,h2,lP,kD];exact List.cons_prefix_cons.2 ⟨rfl,(List.prefix_append_right_inj _).2 (hq.trans (List.prefix_append _ _))⟩
   have aa:Hid (Jx (ph++(ys++q)) W4):=by rw[<- kD];exact af
   gi_wp2
   go_ret;exact .inr ⟨rfl,ys++q,HP,aa⟩
  obtain rfl:j=xs.length:=iu
  gi_wp2
  go_ret;exact .inl ⟨rfl,⟨ys,by have:=HM.out;rwa [pf]at this,HJ⟩,K1⟩
 gi_wp2
 go_ret;exact .inr ⟨rfl,[⟨_,x⟩],by simp,ag⟩
theorem NW (F:Fence) (hd:F.depth=none) (n:Nat) (hc:F.fn 161) (hf:F.fn 162) (hro:F.round=none) (l g B Bj:Nat) (w0:World) (J Jx:List (H9 w0)->World->Prop) (hJ:AbidesFrom Bj J)
  (k o t v:Int) (s:ByteArray) (A:Option Addr) (c:Nat) (xs:List Tx) (x:RX w0 (.mk k o t v s A c xs))
  (hY:∀ph (x:H9 w0) W,J ph W->ph.length<(Tx.mk k o t v s A c xs).size->YieldAt F (n-1) prog l #[x.1.val] W fun e W'=>
   (e=.returned (.bool true)/\J (ph++[x]) W'/\ti w0.heap.size B W W')\/(e=.returned (.bool false)/\Jx (ph++[x]) W'))
  (W:World) (aft:ik w0 W) (hB:B<=W.heap.size) (hg:iP W g 73 #[k,o,t,v,s,.slice A xs.length c]) (h0:J [] W) :
  CallsIn F n prog 161 #[.func (.yield l) #[] #[],.pointer (some g)] W fun e W'=>(∃v,e=.returned v) /\
   ((∃ys:List (H9 w0),ys.map (·.1)=(Tx.mk k o t v s A c xs).list/\J ys W')\/(∃ph:List (H9 w0),ph.map (·.1) <+: (Tx.mk k o t v s A c xs).list/\Jx ph W')):=by
 have a1:∀i:Nat,(F.depth.isSome=true->1<=i):=fun i h=>by rw[hd]at h;cases h
 have HC:=iB (O' F hd hf hro l B (Tx.mk k o t v s A c xs).size Bj w0 J Jx hJ (fun m ph x W hj hl=>AI hd m (hY ph x W hj hl)) _ k o t v s A c xs (js _) x (n-1) [] W aft hB h0 (by simp));have c0:W.cell? g=some (.int .i64 k):=by rw[hg.cell];rfl
 have c1:W.cell? ⟨g,1,none⟩=some (.int .i64 o):=by rw[hg.cell];rfl
 have c2:W.cell? ⟨g,2,none⟩=some (.int .i64 t):=by rw[hg.cell];rfl
 have c3:W.cell? ⟨g,3,none⟩=some (.int .i64 v):=by rw[hg.cell];rfl
 have c4:W.cell? ⟨g,4,none⟩=some (.string s):=by rw[hg.cell];rfl
 have c5:W.cell? ⟨g,5,none⟩=some (.slice A xs.length c):=by rw[hg.cell];rfl
 have hl:=hg.is_le;replace hY:=iB hY;replace hg:=iB hg;refine callsIn_of_wp func161 rfl hc ?_ hro;simp only[ntmps161,Fu,py,wJ,Nat.reduceAdd,Nat.reduceSub,Fw,EO,EY,FK,sb,lP]
 gi_wp2_with fail
 refine HC.mono ?_;rintro e W4 (⟨rfl,⟨j,R,j4⟩,k4⟩ | ⟨rfl,q,hq,I⟩)
 ·have H1:=iy R
  have U:=iy j4
  gi_wp2
  go_end0;exact⟨⟨_,rfl⟩,.inl ⟨j,H1,U⟩⟩
 have H1:=iy hq;have U:=iy I
 gi_wp2
 go_end0;exact⟨⟨_,rfl⟩,.inr ⟨q,H1,U⟩⟩
theorem yT (F:Fence) (n:Nat) (ha:F.fn 124) (hro:F.round=none) (k o t v:Int) (s:ByteArray) (A:Option Addr) (c:Nat) (xs:List Tx) (w:World) :
  CallsIn F n prog 124 #[.agg #[k,o,t,v,s,.slice A xs.length c]] w fun e w'=>e=.returned (.func (.func 161) #[] #[.pointer (some ⟨w.heap.size,0,none⟩)])/\w'=w.alloc (.cells #[k,o,t,v,s,.slice A xs.length c] 73):=by
 refine callsIn_of_wp func124 rfl ha ?_ hro;simp only[ntmps124,Fu,py,wJ,Nat.reduceAdd,Nat.reduceSub,Fw,EO,EY,FK,sb,lP]
 gi_wp2
 go_ret;exact⟨rfl,rfl⟩
theorem yz (F:Fence) (hd:F.depth=none) (n:Nat) (hc:F.fn 161) (hf:F.fn 162) (hro:F.round=none) (g B:Nat) (w0:World) (k o t v:Int) (s:ByteArray) (A:Option Addr) (c:Nat) (xs:List Tx) (x:RX w0 (.mk k o t v s A c xs)) (w:World)
  (aft:ik w0 w) (hB:B<=w.heap.size) (hg:iP w g 73 #[k,o,t,v,s,.slice A xs.length c]) :
  SeqStopsK F n prog 161 #[.pointer (some g)] (fun x:H9 w0=>#[x.1.val]) (ti w0.heap.size B) (fun ys=>ys.map (·.1)=(Tx.mk k o t v s A c xs).list) (fun ph=>ph.map (·.1) <+: (Tx.mk k o t v s A c xs).list) (Tx.mk k o t v s A c xs).size w:=fun l J Jx W hW hJ _ hY h0=>
 NW F hd n hc hf hro l g B _ w0 J Jx hJ k o t v s A c xs x hY W (ij aft ⟨hW⟩) (jW hB hW.size) ((hW.block g hg.lt).trans hg) h0
end
section
open Go.Proofs.Tryz
open Go.RowKit Go.Shelf
attribute [local go_sem] Oper.semAt_some
theorem PV (F:Fence) (hd:F.depth=none) (n:Nat) (h1:F.fn 158) (ha:F.fn 124) (hc:F.fn 161) (hf:F.fn 162) (hro:F.round=none) (hn:3<=n)
  {k o t v:Int} {s:ByteArray} {A:Option Addr} {c:Nat} {xs:List Tx} {w0:World} (hs:(Tx.mk k o t v s A c xs).size<=2000000) (x:RX w0 (.mk k o t v s A c xs)) (w:World) (aft:ik w0 w) :
  CallsIn F n prog 158 #[.agg #[k,o,t,v,s,.slice A xs.length c]] w fun e w'=>e=.returned (.int .i64 ((Tx.mk k o t v s A c xs).size:Nat))/\ik w w':=by
 have a7:1<=n:=by omega
 have ab:∀i:Nat,(F.depth.isSome=true->1<=i):=fun i h=>by rw[hd]at h;cases h
 refine callsIn_of_wp_marks func158 rfl h1 ?_ hro;simp only[ntmps158,Fu,py,wJ,Nat.reduceAdd,Nat.reduceSub,Fw,EO,EY,FK,sb,lP]
 gi_wp2_with fail
 refine (yT F (n-1) ha hro k o t v s A c xs _).mono ?_;rintro e w' ⟨rfl,rfl⟩
 gi_wp2_with fail
 obtain⟨N,R⟩:∃N,(Tx.mk k o t v s A c xs).size=N:=⟨_,rfl⟩;obtain⟨U,hU,ad,bU,bE,kU⟩:∃U,(((w.alloc (.cells #[k,o,t,v,s,.slice A xs.length c] 73)).alloc (.cells #[.int .i64 0] 3)).alloc (.cells #[k,o,t,v,s,.slice A xs.length c] 73))=U/\U.heap.size=w.heap.size+3/\iP U (w.heap.size+1) 3 #[.int .i64 0]/\iP U (w.heap.size+2) 73 #[k,o,t,v,s,.slice A xs.length c]/\ik w U:=by
  refine⟨_,rfl,by simp,(H_ w _ _ _).alloc _,?_,inferInstance⟩;have:=H_ (w.alloc (.cells #[k,o,t,v,s,.slice A xs.length c] 73)) (.cells #[.int .i64 0] 3) 73 #[k,o,t,v,s,.slice A xs.length c];rw[iH]at this;exact this
 have I:=yz F hd (n-1) hc hf hro (w.heap.size+2) (w.heap.size+2) w0 k o t v s A c xs x U (ij aft kU) (by omega) bE;have a_:=aft.below.size;rw[R]at I hs;rw[hU];refine wpIn_rangeFunc_ownF hro a7 (gf:=161) (lb:=#[.pointer (some ⟨w.heap.size+2,0,none⟩)]) rfl hc (enters_of func161 (by kernel_rfl) rfl) I ti.trans (ti.PY (by omega)) (Below.refl _ _) (fun _=>rfl)
  (fun j W=>iP W (w.heap.size+1) 3 #[.int .i64 (j.length:Nat)]/\Below w.heap.size w W) (fun _ _ _=>False)
  (fun s A B a8 hs hg hr=>⟨hs.1.grown hg (fun e=>by have:=(hr _ e.symm).1;omega),hs.2.grown hg hs.2.size (fun k e=>by have:=(hr _ e).1;omega)⟩)
  (fun _ _ _ _ _ hs _ _=>hs) ⟨bU,kU.below⟩
  (fun x=>{ tmps:=#[.agg #[k,o,t,v,s,.slice A xs.length c],.pointer (some ⟨w.heap.size,0,none⟩),.int .i64 0,.pointer (some ⟨w.heap.size+1,0,none⟩),.agg #[k,o,t,v,s,.slice A xs.length c],.func (.func 161) #[] #[.pointer (some ⟨w.heap.size+2,0,none⟩)],x.1.val,undef,undef,undef],defers:=[] }) ?assign ?body ?done ?stop
 case assign=>
  intro l x W K hK
  gi_wp2
  exact hK
 case body=>
  rintro l j x W ⟨J,hB⟩ a';have aa:(j.length:Int)+1<=2000000:=by omega
  have c0:W.cell? ⟨w.heap.size+1,0,none⟩=some (.int .i64 (j.length:Nat)):=by rw[J.cell];rfl
  have f0:=J.frozen 0
  gi_wp2
  refine⟨KeepsOthers.setCell _ _ _,ti.set (by omega) (by omega) 0 _,?_,hB.setCell (p:=⟨w.heap.size+1,0,none⟩) (by show w.heap.size<=w.heap.size+1;omega) _⟩;have:=J.jx 0 (.int .i64 ((j.length:Int)+1));rw[mo];simpa using this
 case done=>
  rintro D ys W hD a1 ⟨J,hB⟩ hK;have a6:ys.length=N:=by have:=nQ List.length a1;rw[pE,Tx.list_length,R]at this;exact this
  rw[a6]at J;have c0:W.cell? ⟨w.heap.size+1,0,none⟩=some (.int .i64 (N:Nat)):=by rw[J.cell];rfl
  gi_wp2
  refine⟨by simp,.inl ⟨_,_,rfl,run_takeDeferred hK,?_⟩⟩;exact⟨_,results_tmp rfl _ _ _,rfl,⟨hB.trans (belowK_b (w:=w) (js _) W D _ _ (by omega) hK rfl rfl)⟩⟩
 case stop=>
 rintro D c j W _ _ h _;exact h.elim
theorem Ca {k o t v:Int} {s:ByteArray} {A:Option Addr} {c:Nat} {xs:List Tx} {w0:World} (hs:(Tx.mk k o t v s A c xs).size<=2000000) (x:RX w0 (.mk k o t v s A c xs)) (w:World) (aft:ik w0 w) :
  Calls prog 158 #[.agg #[k,o,t,v,s,.slice A xs.length c]] w fun e w'=>e=.returned (.int .i64 ((Tx.mk k o t v s A c xs).size:Nat))/\ik w w':=
 (callsIn_wide (n:=3)).1 (PV _ rfl 3 trivial trivial trivial trivial rfl iI hs x w aft)
end
section
open Go.RowKit Go.Shelf
attribute [local go_sem] Oper.semAt_some
def E7 {w0:World} (l:List (H9 w0)):List Tx:=l.map fun x=>x.1
theorem Ib {w0:World} (l:List (H9 w0)) (e:Tx) (h:RX w0 e):E7 (l++[⟨e,h⟩])=E7 l++[e]:=by simp[E7]
def J_ (D:Nat) (mk:Value->Act) (x:Tx) (a':Act) (W:World):Prop:=∃Bx,D<=Bx/\iP W Bx 73 x.cells/\a'=mk (.pointer (some Bx))
theorem At {D B:Nat} {mk:Value->Act} {x:Tx} {a':Act}:OwnFrom B (fun (_:Unit) W=>J_ D mk x a' W):=by
 rintro s A C I ⟨Bx,h1,j,h3⟩ R J;refine⟨Bx,h1,j.grown R (fun e=>?_),h3⟩;obtain⟨_,ob,o,U⟩:=J _ e.symm;unfold iP at j;rw[j]at o;cases o;cases U
end
section
open Go.Proofs.Tryz
open Go.RowKit Go.Shelf
attribute [local go_sem] Oper.semAt_some
def dk (q:Int):Bool:=q==5||q==6||q==7||q==10||q==11
def jL (l:List Tx):Bool:=l.all fun e=>!dk e.kind
theorem CO (l:List Tx) (e:Tx):jL (l++[e])=(jL l&&!dk e.kind):=by simp[jL,He]
theorem Dk {l m:List Tx} (h:l <+: m) (e:jL l=false):jL m=false:=by
 obtain⟨r,rfl⟩:=h;unfold jL at *
 rw[He,e];rfl
theorem Fp (F:Fence) (hd:F.depth=none) (n:Nat) (h1:F.fn 157) (ha:F.fn 124) (hc:F.fn 161) (hf:F.fn 162) (hro:F.round=none) (hn:3<=n)
  {k o t v:Int} {s:ByteArray} {A:Option Addr} {c:Nat} {xs:List Tx} {w0:World} (x:RX w0 (.mk k o t v s A c xs)) (w:World) (aft:ik w0 w) :
  CallsIn F n prog 157 #[.agg #[k,o,t,v,s,.slice A xs.length c]] w fun e w'=>e=.returned (.bool (jL (Tx.mk k o t v s A c xs).list))/\ik w w':=by
 have ab:1<=n:=iu;have ah:∀i:Nat,(F.depth.isSome=true->1<=i):=fun i h=>by rw[hd]at h;cases h
 refine callsIn_of_wp_marks func157 rfl h1 ?_ hro;simp only[ntmps157,Fu,py,wJ,Nat.reduceAdd,Nat.reduceSub,Fw,EO,EY,FK,sb,lP]
 gi_wp2_with fail
 refine (yT F (n-1) ha hro k o t v s A c xs _).mono ?_;rintro e w' ⟨rfl,rfl⟩
 gi_wp2_with fail
 obtain⟨U,hU,R,bU,bE,kU⟩:∃U,(((w.alloc (.cells #[k,o,t,v,s,.slice A xs.length c] 73)).alloc (.cells #[.bool false] 4)).alloc (.cells #[k,o,t,v,s,.slice A xs.length c] 73))=U/\U.heap.size=w.heap.size+3/\iP U (w.heap.size+1) 4 #[.bool false]/\iP U (w.heap.size+2) 73 #[k,o,t,v,s,.slice A xs.length c]/\ik w U:=by
  refine⟨_,rfl,by simp,(H_ w _ _ _).alloc _,?_,inferInstance⟩;have:=H_ (w.alloc (.cells #[k,o,t,v,s,.slice A xs.length c] 73)) (.cells #[.bool false] 4) 73 #[k,o,t,v,s,.slice A xs.length c];rw[iH]at this;exact this
 have a7:=yz F hd (n-1) hc hf hro (w.heap.size+2) (w.heap.size+2) w0 k o t v s A c xs x U (ij aft kU) iu bE;have af:=aft.below.size;have aj:w.heap.size+3<=U.heap.size:=lI R.symm;have ai:U.heap.size<=w.heap.size+3:=lI R;rw[hU];clear hU R;refine wpIn_rangeFunc_ownH hro ab (gf:=161) (lb:=#[.pointer (some ⟨w.heap.size+2,0,none⟩)]) rfl hc (enters_of func161 (by kernel_rfl) rfl) a7 ti.trans (ti.PY (by omega)) (Below.refl _ _) (fun _=>rfl)
  (fun j W=>iP W (w.heap.size+1) 4 #[.bool false]/\Hid (jL (E7 j)=true)/\Below w.heap.size w W/\U.heap.size<=W.heap.size)
  (fun c j W=>c=.ret/\iP W (w.heap.size+1) 4 #[.bool false]/\Hid (jL (E7 j)=false)/\Below w.heap.size w W)
  (fun s A B a_ J hg hr=>⟨J.1.grown hg (fun e=>by have:=(hr _ e.symm).1;omega),J.2.1,J.2.2.1.grown hg J.2.2.1.size (fun k e=>by have:=(hr _ e).1;omega),jW J.2.2.2 hg.size⟩)
  (fun c s A B a_ J hg hr=>⟨J.1,J.2.1.grown hg (fun e=>by have:=(hr _ e.symm).1;omega),J.2.2.1,J.2.2.2.grown hg J.2.2.2.size (fun k e=>by have:=(hr _ e).1;omega)⟩) ⟨bU,rfl,kU.below,js _⟩
  (fun x a' W=>J_ U.heap.size (fun p=>{ tmps:=#[.agg #[k,o,t,v,s,.slice A xs.length c],.pointer (some ⟨w.heap.size,0,none⟩),.pointer (some ⟨w.heap.size+1,0,none⟩),p,.agg #[k,o,t,v,s,.slice A xs.length c],.func (.func 161) #[] #[.pointer (some ⟨w.heap.size+2,0,none⟩)],x.1.val,undef,undef,undef,undef,undef,undef,undef,undef],defers:=[] }) x.1 a' W)
  (fun x a'=>At) ?assign ?body ?done ?stop
 case assign=>
  rintro l j ⟨⟨k1,o1,t1,v1,s1,A1,c1,ae⟩,hx⟩ W K ⟨I,i2,i3,i4⟩ hK;simp only[Tx.val,txs]
  gi_wp2
  exact hK _ _ ((KeepsOthers.alloc _ _).from _) (ti.after (by omega) inferInstance) ⟨I.alloc _,i2,i3.alloc i3.size _,by simp;omega⟩ ⟨W.heap.size,i4,jC _ _ _,rfl⟩
 case body=>
  rintro l j ⟨e,hx⟩ a' W hl _ ⟨I,i2,i3,i4⟩ ⟨Bx,ak,bX,rfl⟩ ag;have a6:Hid (jL (E7 (j++[⟨e,hx⟩]))=!dk e.kind):=by show _=_;rw[Ib,CO,i2.out,xI]
  have c0:W.cell? Bx=some (.int .i64 e.kind):=by rw[bX.cell];rfl
  have c2:W.cell? ⟨w.heap.size+1,0,none⟩=some (.bool false):=by rw[I.cell];rfl
  have f2:=I.frozen 0;have lX:=bX.is_le;have l2:=I.is_le;have HR:dk e.kind=true->∀a:Act,(ownPostG U.heap.size (ti w0.heap.size (w.heap.size+2)) (fun (j:List (H9 w0)) W=>iP W (w.heap.size+1) 4 #[.bool false]/\Hid (jL (E7 j)=true)/\Below w.heap.size w W/\U.heap.size<=W.heap.size)
    (fun c j W=>c=.ret/\iP W (w.heap.size+1) 4 #[.bool false]/\Hid (jL (E7 j)=false)/\Below w.heap.size w W) (j++[⟨e,hx⟩]) W .ret a (W.setCell ⟨w.heap.size+1,0,none⟩ (.bool false))):=fun hk a=>by
   refine⟨(KeepsOthers.setCell _ _ _).from _,rfl,I.jx 0 (.bool false),?_,i3.setCell (p:=⟨w.heap.size+1,0,none⟩) (by show w.heap.size<=w.heap.size+1;omega) _⟩;show _=_
   rw[a6.out,hk];rfl
  replace HR:=iB HR;generalize e.kind=q at c0 a6 HR;by_cases b5:q=5
  ·subst b5;gi_wp2;exact HR.out rfl _
  by_cases b6:q=6
  ·subst b6;gi_wp2;exact HR.out rfl _
  by_cases b7:q=7
  ·subst b7;gi_wp2;exact HR.out rfl _
  by_cases b8:q=10
  ·subst b8;gi_wp2;exact HR.out rfl _
  by_cases b9:q=11
  ·subst b9;gi_wp2;exact HR.out rfl _
  have t5:(q==5)=false:=by simpa using b5
  have t6:(q==6)=false:=by simpa using b6
  have t7:(q==7)=false:=by simpa using b7
  have t8:(q==10)=false:=by simpa using b8
  have t9:(q==11)=false:=by simpa using b9
  have HD:Hid (jL (E7 (j++[⟨e,hx⟩]))=true):=by show _=_;rw[a6.out];unfold dk;rw[t5,t6,t7,t8,t9];rfl
  gi_wp2
  exact⟨(KeepsOthers.refl _).from _,ti.refl _ _ _,I,HD,i3,i4⟩
 case done=>
  rintro D ys W hD aa ⟨I,i2,i3,i4⟩ hK;have HS:Hid (jL (Tx.mk k o t v s A c xs).list=true):=by have:=i2.out;rwa [show E7 ys=_ from aa]at this
  have c2:W.cell? ⟨w.heap.size+1,0,none⟩=some (.bool false):=by rw[I.cell];rfl
  have f2:=I.frozen 0;have l2:=I.is_le;have i5:=iB (I.jx 0 (.bool true));have a1:=(KeepsOthers.setCell W ⟨w.heap.size+1,0,none⟩ (.bool true)).same D _ hK rfl;have ck:((W.setCell ⟨w.heap.size+1,0,none⟩ (.bool true)).putObj D (.deferred none)).cell? ⟨w.heap.size+1,0,none⟩=some (.bool true):=cell_kept (by rw[i5.out.cell];rfl) (grownBy_putObj' _ D (.deferred none)) (fun r e=>by cases e;exact⟨_,a1,rfl⟩);have ad:=(i3.setCell (p:=⟨w.heap.size+1,0,none⟩) (by show w.heap.size<=w.heap.size+1;omega) (.bool true)).trans (belowK_b (w:=w) (js _) (W.setCell ⟨w.heap.size+1,0,none⟩ (.bool true)) D _ (.deferred none) (by omega) a1 rfl rfl)
  gi_wp2
  refine⟨by simp,.inl ⟨_,_,rfl,run_takeDeferred a1,?_⟩⟩;exact⟨.bool true,by simp[results,results157,go_sem,ck],by rw[HS.out],⟨ad⟩⟩
 case stop=>
 rintro D c j W hD a8 ⟨rfl,I,i2,i3⟩ hK;have HS:Hid (jL (Tx.mk k o t v s A c xs).list=false):=Dk (show E7 j <+: _ from a8) i2;have ck:(W.putObj D (.deferred none)).cell? ⟨w.heap.size+1,0,none⟩=some (.bool false):=cell_kept (by rw[I.cell];rfl) (grownBy_putObj' _ D (.deferred none)) (fun r e=>by cases e;exact⟨_,hK,rfl⟩)
 gi_wp2
 refine⟨by simp,.inl ⟨_,_,rfl,run_takeDeferred hK,?_⟩⟩;exact⟨.bool false,by simp[results,results157,go_sem,ck],by rw[HS.out],⟨i3.trans (belowK_b (w:=w) (js _) W D _ _ (by omega) hK rfl rfl)⟩⟩
theorem Dp {k o t v:Int} {s:ByteArray} {A:Option Addr} {c:Nat} {xs:List Tx} {w0:World} (x:RX w0 (.mk k o t v s A c xs)) (w:World) (aft:ik w0 w) :
  Calls prog 157 #[.agg #[k,o,t,v,s,.slice A xs.length c]] w fun e w'=>e=.returned (.bool (jL (Tx.mk k o t v s A c xs).list))/\ik w w':=
 (callsIn_wide (n:=3)).1 (Fp _ rfl 3 trivial trivial trivial trivial rfl iI x w aft)
end
section
open Go.Proofs.Tryz
open Go.RowKit Go.Shelf
attribute [local go_sem] Oper.semAt_some
noncomputable def uo (e:Tx):Int:=Ay e.kind e.op e.ty e.va e.name e.args.length
noncomputable def kR:List Tx->Int
 |[]=>0
 |e::l=>if uo e=0 then kR l else uo e
theorem sw (l m:List Tx):kR (l++m)=if kR l=0 then kR m else kR l:=by
 induction l with
 |nil=>simp[kR]
 |cons a l ih=>
 rw[lP,kR,kR,ih];by_cases h:uo a=0
 ·rw[iG h,iG h]
 rw[iV h,iV h,iV h]
theorem GW (l:List Tx) (e:Tx):kR (l++[e])=if kR l=0 then uo e else kR l:=by
 rw[sw];have:kR [e]=uo e:=by simp only[kR];split<;>simp_all
 rw[this]
theorem Je {l m:List Tx} (h:l <+: m) (e:kR l≠0):kR m=kR l:=by
 obtain⟨r,rfl⟩:=h;rw[sw,iV e]
noncomputable def vj (e:Tx):Int:=if 400<e.size\/32<e.depth then 3 else kR e.list
theorem KeepsOthers.rJ {A B:World} (h:ik A B):KeepsOthers A B:=
 ⟨h.below.size,fun i o hi _=>by
  have hlt:i<A.heap.size:=by
   rcases qa i A.heap.size with h | h
   ·exact h
   rw[FF h]at hi;cases hi
  rw[h.below.block i hlt];exact hi⟩
theorem M5 {k o t v:Int} {s:ByteArray} {A:Option Addr} {c:Nat} {xs:List Tx} {w0:World} (h4:¬400<(Tx.mk k o t v s A c xs).size) (h3:¬32<(Tx.mk k o t v s A c xs).depth) (x:RX w0 (.mk k o t v s A c xs)) (w:World) (aft:ik w0 w) :
  CallsIn Fence.wide 3 prog 123 #[.agg #[.int .i64 k,.int .i64 o,.int .i64 t,.int .i64 v,.string s,.slice A xs.length c]] w fun e w'=>e=.returned (.int .i64 (kR (Tx.mk k o t v s A c xs).list))/\ik w w':=by
 have HZ:Hid (∀U,ik w0 U->CallsIn Fence.wide 2 prog 158 #[.agg #[.int .i64 k,.int .i64 o,.int .i64 t,.int .i64 v,.string s,.slice A xs.length c]] U fun e w'=>e=.returned (.int .i64 ((Tx.mk k o t v s A c xs).size:Nat))/\ik U w'):=iB fun U hU=>callsIn_wide.2 (Ca (by omega) x U hU)
 have HD:Hid (∀U,ik w0 U->CallsIn Fence.wide 2 prog 159 #[.agg #[.int .i64 k,.int .i64 o,.int .i64 t,.int .i64 v,.string s,.slice A xs.length c]] U fun e w'=>e=.returned (.int .i64 ((Tx.mk k o t v s A c xs).depth:Nat))/\ik U w'):=iB fun U hU=>callsIn_wide.2 (Ep (by omega) x U hU)
 obtain⟨nz,af⟩:∃nz,(Tx.mk k o t v s A c xs).size=nz:=⟨_,rfl⟩;obtain⟨nd,ag⟩:∃nd,(Tx.mk k o t v s A c xs).depth=nd:=⟨_,rfl⟩;rw[af]at HZ h4;rw[ag]at HD h3;have ao:¬(400:Int)<(nz:Int):=by omega
 have aq:¬(32:Int)<(nd:Int):=by omega
 refine callsIn_of_wp_marks func123 rfl trivial ?_ rfl;simp only[ntmps123,Fu,py,wJ,Nat.reduceAdd,Nat.reduceSub,Fw,EO,EY,FK,sb,lP]
 gi_wp2_with fail
 refine⟨trivial,(HZ _ (by infer_instance)).mono ?_⟩;rintro _ w1 ⟨rfl,ha⟩;obtain⟨y1,rfl⟩:=@jP _ _ ha
 gi_wp2_with fail
 refine⟨trivial,(HD _ (by infer_instance)).mono ?_⟩;rintro _ w2 ⟨rfl,ha⟩;obtain⟨y2,rfl⟩:=@jP _ _ ha
 gi_wp2_with fail
 simp only[show decide ((400:Int)<(nz:Int))=false from decide_eq_false (by omega),show decide ((32:Int)<(nd:Int))=false from decide_eq_false (by omega),Bool.or_false];obtain⟨V,hV,bV,aV,sV⟩:∃V,(((w.alloc (.cells #[.int .i64 k,.int .i64 o,.int .i64 t,.int .i64 v,.string s,.slice A xs.length c] 73)).alloc (.cells #[.int .i64 0] 26)).more y1).more y2=V/\iP V (w.heap.size+1) 26 #[.int .i64 0]/\ik w V/\w.heap.size+2<=V.heap.size:=by
  refine⟨_,rfl,((H_ w _ _ _).more _).more _,inferInstance,?_⟩;have h2:=ik.size ((w.alloc (.cells #[.int .i64 k,.int .i64 o,.int .i64 t,.int .i64 v,.string s,.slice A xs.length c] 73)).alloc (.cells #[.int .i64 0] 26)) ((((w.alloc (.cells #[.int .i64 k,.int .i64 o,.int .i64 t,.int .i64 v,.string s,.slice A xs.length c] 73)).alloc (.cells #[.int .i64 0] 26)).more y1).more y2);simpa using h2
 rw[hV];refine⟨trivial,(yT Fence.wide 2 trivial rfl k o t v s A c xs _).mono ?_⟩;rintro e w' ⟨rfl,rfl⟩
 gi_wp2_with fail
 obtain⟨g,R⟩:∃g,V.heap.size=g:=⟨_,rfl⟩;obtain⟨U,hU,ai,bU,bE,kU⟩:∃U,V.alloc (.cells #[.int .i64 k,.int .i64 o,.int .i64 t,.int .i64 v,.string s,.slice A xs.length c] 73)=U/\U.heap.size=g+1/\iP U (w.heap.size+1) 26 #[.int .i64 0]/\iP U g 73 #[.int .i64 k,.int .i64 o,.int .i64 t,.int .i64 v,.string s,.slice A xs.length c]/\ik w U:=
  ⟨_,rfl,by simp[R],bV.alloc _,by rw[<- R];exact jC V _ _,inferInstance⟩
 have a8:=yz Fence.wide rfl 2 trivial trivial rfl g g w0 k o t v s A c xs x U (ij aft kU) (by omega) bE;have ak:=aft.below.size;rw[hU,R];rw[R]at sV;refine wpIn_rangeFunc_ownH rfl (by decide) (gf:=161) (lb:=#[.pointer (some ⟨g,0,none⟩)]) rfl trivial (enters_of func161 (by kernel_rfl) rfl) a8 ti.trans (ti.PY (by omega)) (Below.refl _ _) (fun _=>rfl)
  (fun j W=>iP W (w.heap.size+1) 26 #[.int .i64 0]/\Hid (kR (E7 j)=0)/\Below w.heap.size w W/\U.heap.size<=W.heap.size)
  (fun c j W=>c=.ret/\iP W (w.heap.size+1) 26 #[.int .i64 (kR (E7 j))]/\Hid (kR (E7 j)≠0)/\Below w.heap.size w W)
  (fun s A B aa J R hr=>⟨J.1.grown R (fun e=>by have:=(hr _ e.symm).1;omega),J.2.1,J.2.2.1.grown R J.2.2.1.size (fun k e=>by have:=(hr _ e).1;omega),jW J.2.2.2 R.size⟩)
  (fun c s A B aa J R hr=>⟨J.1,J.2.1.grown R (fun e=>by have:=(hr _ e.symm).1;omega),J.2.2.1,J.2.2.2.grown R J.2.2.2.size (fun k e=>by have:=(hr _ e).1;omega)⟩) ⟨bU,rfl,kU.below,js _⟩
  (fun x a' W=>J_ U.heap.size (fun p=>{ tmps:=#[.agg #[.int .i64 k,.int .i64 o,.int .i64 t,.int .i64 v,.string s,.slice A xs.length c],.pointer (some ⟨w.heap.size,0,none⟩),.pointer (some ⟨w.heap.size+1,0,none⟩),p,undef,.agg #[.int .i64 k,.int .i64 o,.int .i64 t,.int .i64 v,.string s,.slice A xs.length c],.int .i64 nz,.bool false,.bool false,.agg #[.int .i64 k,.int .i64 o,.int .i64 t,.int .i64 v,.string s,.slice A xs.length c],.int .i64 nd,.bool false,.bool false,.agg #[.int .i64 k,.int .i64 o,.int .i64 t,.int .i64 v,.string s,.slice A xs.length c],.func (.func 161) #[] #[.pointer (some ⟨g,0,none⟩)],x.1.val,undef,undef,undef,undef,undef],defers:=[] }) x.1 a' W)
  (fun x a'=>At) ?assign ?body ?done ?stop
 case assign=>
  rintro l j ⟨⟨k1,o1,t1,v1,s1,A1,c1,aj⟩,hx⟩ W K ⟨i1,i2,i3,i4⟩ hK;simp only[Tx.val,txs]
  gi_wp2
  exact hK _ _ ((KeepsOthers.alloc _ _).from _) (ti.after (by omega) inferInstance) ⟨i1.alloc _,i2,i3.alloc i3.size _,by simp;omega⟩ ⟨W.heap.size,i4,jC _ _ _,rfl⟩
 case body=>
  rintro l j ⟨e,hx⟩ a' W hl _ ⟨i1,i2,i3,i4⟩ ⟨Bx,an,bX,rfl⟩ al;have c0:W.cell? ⟨Bx,0,none⟩=some (.int .i64 e.kind):=by rw[bX.cell];rfl
  have c1:W.cell? ⟨Bx,1,none⟩=some (.int .i64 e.op):=by rw[bX.cell];rfl
  have c2:W.cell? ⟨Bx,2,none⟩=some (.int .i64 e.ty):=by rw[bX.cell];rfl
  have c3:W.cell? ⟨Bx,3,none⟩=some (.int .i64 e.va):=by rw[bX.cell];rfl
  have c4:W.cell? ⟨Bx,4,none⟩=some (.string e.name):=by rw[bX.cell];rfl
  have c5:W.cell? ⟨Bx,5,none⟩=some (.slice e.ad e.args.length e.cap):=by rw[bX.cell];rfl
  have lX:=bX.is_le;obtain⟨r,hr⟩:∃r,uo e=r:=⟨_,rfl⟩;have HC:Hid (∀m W',CallsIn (Fence.wide.inRound l) m prog 160 #[.agg #[.int .i64 e.kind,.int .i64 e.op,.int .i64 e.ty,.int .i64 e.va,.string e.name,.slice e.ad e.args.length e.cap]] W' fun en w'=>en=.returned (.int .i64 r)/\ik W' w'):=iB fun m W'=>by
   have hb:=hx.bounds;have:=PJ (k:=e.kind) (o:=e.op) (t:=e.ty) (v:=e.va) (s:=e.name) (A:=e.ad) (n:=e.args.length) (c:=e.cap) hb.2.2.2 hb.1 W';rw[show Ay e.kind e.op e.ty e.va e.name e.args.length=r from hr]at this;exact CallsIn.inRound l (callsIn_wide.2 this)
  have a6:Hid (kR (E7 (j++[⟨e,hx⟩]))=r):=by show _=_;rw[Ib,GW,iG i2.out,hr]
  gi_wp2_with fail
  refine⟨trivial,(HC _ _).mono ?_⟩;rintro _ w2 ⟨rfl,ha⟩;have I:iP w2 (w.heap.size+1) 26 #[.int .i64 0]:=i1.after (k:=ha);have a7:Below w.heap.size w w2:=i3.trans (ha.below.mono i3.size);have ab:U.heap.size<=w2.heap.size:=jW i4 ha.below.size;have cr:w2.cell? ⟨w.heap.size+1,0,none⟩=some (.int .i64 0):=by rw[I.cell];rfl
  have fr:=I.frozen 0;have lr:=I.is_le;by_cases h0:r=0
  ·subst h0
   gi_wp2
   exact⟨(KeepsOthers.rJ ha).from _,ti.after (by omega) ha,I,a6,a7,ab⟩
  have ar:(r != 0)=true:=by simpa using h0
  gi_wp2
  refine⟨((KeepsOthers.rJ ha).trans (KeepsOthers.setCell _ _ _)).from _,rfl,?_,?_,a7.setCell (p:=⟨w.heap.size+1,0,none⟩) (by show w.heap.size<=w.heap.size+1;omega) _⟩
  ·rw[a6.out];exact I.jx 0 (.int .i64 r)
  show _≠_;rw[a6.out];exact h0
 case done=>
  rintro D ys W hD ae ⟨i1,i2,i3,i4⟩ hK;have HS:Hid (kR (Tx.mk k o t v s A c xs).list=0):=by have:=i2.out;rwa [show E7 ys=_ from ae]at this
  have c2:W.cell? ⟨w.heap.size+1,0,none⟩=some (.int .i64 0):=by rw[i1.cell];rfl
  have f2:=i1.frozen 0;have l2:=i1.is_le;have i5:=iB (i1.jx 0 (.int .i64 0));have a1:=(KeepsOthers.setCell W ⟨w.heap.size+1,0,none⟩ (.int .i64 0)).same D _ hK rfl;have ck:((W.setCell ⟨w.heap.size+1,0,none⟩ (.int .i64 0)).putObj D (.deferred none)).cell? ⟨w.heap.size+1,0,none⟩=some (.int .i64 0):=cell_kept (by rw[i5.out.cell];rfl) (grownBy_putObj' _ D (.deferred none)) (fun r e=>by cases e;exact⟨_,a1,rfl⟩);have ah:=(i3.setCell (p:=⟨w.heap.size+1,0,none⟩) (by show w.heap.size<=w.heap.size+1;omega) (.int .i64 0)).trans (belowK_b (w:=w) (js _) (W.setCell ⟨w.heap.size+1,0,none⟩ (.int .i64 0)) D _ (.deferred none) (by omega) a1 rfl rfl)
  gi_wp2
  refine⟨by simp,.inl ⟨_,_,rfl,run_takeDeferred a1,?_⟩⟩;exact⟨.int .i64 0,by simp[results,results123,go_sem,ck],by rw[HS.out],⟨ah⟩⟩
 case stop=>
 rintro D c j W hD a_ ⟨rfl,i1,i2,i3⟩ hK;have HS:=iy (Je (show E7 j <+: _ from a_) i2);have ck:(W.putObj D (.deferred none)).cell? ⟨w.heap.size+1,0,none⟩=some (.int .i64 (kR (E7 j))):=cell_kept (by rw[i1.cell];rfl) (grownBy_putObj' _ D (.deferred none)) (fun r e=>by cases e;exact⟨_,hK,rfl⟩)
 gi_wp2
 refine⟨by simp,.inl ⟨_,_,rfl,run_takeDeferred hK,?_⟩⟩;exact⟨.int .i64 (kR (E7 j)),by simp[results,results123,go_sem,ck],by rw[HS.out],⟨i3.trans (belowK_b (w:=w) (js _) W D _ _ (by omega) hK rfl rfl)⟩⟩
theorem KS {k o t v:Int} {s:ByteArray} {A:Option Addr} {c:Nat} {xs:List Tx} {w0:World} (hs:(Tx.mk k o t v s A c xs).size<=2000000) (x:RX w0 (.mk k o t v s A c xs)) (w:World) (aft:ik w0 w) :
  Calls prog 123 #[.agg #[.int .i64 k,.int .i64 o,.int .i64 t,.int .i64 v,.string s,.slice A xs.length c]] w fun e w'=>e=.returned (.int .i64 (vj (Tx.mk k o t v s A c xs)))/\ik w w':=by
 by_cases h4:400<(Tx.mk k o t v s A c xs).size
 ·have HV:Hid (vj (Tx.mk k o t v s A c xs)=3):=by show _=_;unfold vj;rw[iG (.inl h4)]
  have R:Hid (∀U,ik w0 U->Calls prog 158 #[.agg #[.int .i64 k,.int .i64 o,.int .i64 t,.int .i64 v,.string s,.slice A xs.length c]] U fun e w'=>e=.returned (.int .i64 ((Tx.mk k o t v s A c xs).size:Nat))/\ik U w'):=iy fun U J=>Ca hs x U J
  obtain⟨nz,j⟩:=jt ((Tx.mk k o t v s A c xs).size);rw[j]at R h4;have a6:(400:Int)<(nz:Int):=iu;go_in;go_wp2_with fail;refine (R _ iR).mono ?_;rintro _ w1 ⟨rfl,I⟩;obtain⟨y1,rfl⟩:=@jP _ _ I;go_wp2_with fail;refine jR (v:=.int .i64 3) (by simp[results,results123,go_sem]) rfl ⟨by rw[HV.out],iR⟩
 by_cases h3:32<(Tx.mk k o t v s A c xs).depth
 ·have HV:Hid (vj (Tx.mk k o t v s A c xs)=3):=by show _=_;unfold vj;rw[iG (.inr h3)]
  have R:Hid (∀U,ik w0 U->Calls prog 158 #[.agg #[.int .i64 k,.int .i64 o,.int .i64 t,.int .i64 v,.string s,.slice A xs.length c]] U fun e w'=>e=.returned (.int .i64 ((Tx.mk k o t v s A c xs).size:Nat))/\ik U w'):=iy fun U J=>Ca hs x U J
  have HD:Hid (∀U,ik w0 U->Calls prog 159 #[.agg #[.int .i64 k,.int .i64 o,.int .i64 t,.int .i64 v,.string s,.slice A xs.length c]] U fun e w'=>e=.returned (.int .i64 ((Tx.mk k o t v s A c xs).depth:Nat))/\ik U w'):=iy fun U J=>Ep hs x U J
  obtain⟨nz,j⟩:=jt ((Tx.mk k o t v s A c xs).size);obtain⟨nd,a1⟩:=jt ((Tx.mk k o t v s A c xs).depth);rw[j]at R h4;rw[a1]at HD h3;have a6:¬(400:Int)<(nz:Int):=iu;have a7:(32:Int)<(nd:Int):=iu;go_in;go_wp2_with fail;refine (R _ iR).mono ?_;rintro _ w1 ⟨rfl,I⟩;obtain⟨y1,rfl⟩:=@jP _ _ I;go_wp2_with fail;refine (HD _ iR).mono ?_;rintro _ w1 ⟨rfl,I⟩;obtain⟨y2,rfl⟩:=@jP _ _ I;go_wp2_with fail;refine jR (v:=.int .i64 3) (by simp[results,results123,go_sem]) rfl ⟨by rw[HV.out],iR⟩
 have:=(callsIn_wide (n:=3)).1 (M5 h4 h3 x w aft);unfold vj;rw[iV iu];exact this
end
end Go.Proofs.YtnigblndonocfaaGreatDoor
