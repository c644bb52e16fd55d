/- A part of the proof. -/
import Derived.Test.YtnigblndonocfaaGreatDoorPEx
set_option linter.unusedVariables false
set_option linter.unusedSimpArgs false
namespace Go.Proofs.YtnigblndonocfaaGreatDoor
set_option maxRecDepth 100000
set_option maxHeartbeats 4000000
open Go.Proofs.Tryz
open Go.RowKit Go.Shelf
attribute [local go_sem] Oper.semAt_some
def Mb (w:World) (e:Tx):Prop:=RX w e/\FY e
theorem Mb.bounds {w:World} {e:Tx} (h:Mb w e):e.name.size<=140737488355328/\e.args.length<=e.cap/\e.cap<=9223372036854775807/\e.args.length<=140737488355328:=h.1.bounds
theorem Mb.here {w0:World} {e:Tx} (h:Mb w0 e) (w:World) [k:ik w0 w]:RX w e:=h.1.here w
theorem FY.args {e:Tx} (h:FY e):∀y∈e.args,FY y:=by
 cases e with
 |mk k o t v s A c xs=>
 intro y j x I;refine h x ?_;rw[Tx.list,uW];refine .inr ?_;simp only[Tx.args]at j;clear h;induction xs with
 |nil=>cases j
 |cons a l ih=>
 rw[Tx.lists,ue];rcases uW.1 j with rfl | hm
 ·exact .inl I
 exact .inr (ih hm)
theorem FY.ty {e:Tx} (h:FY e):e.ty<=9223372036854775807:=h e (by cases e;rw[Tx.list];simp)
theorem Mb.all {w:World} {e:Tx} (h:Mb w e):∀x∈e.args,Mb w x:=fun x hx=>⟨h.1.all x hx,h.2.args x hx⟩
abbrev Gc (w0:World):Type:={ x:Tx // Mb w0 x }
def Lx {w0:World} (B:Nat) (J Jx:List (Gc w0)->World->Prop) (ph:List (Gc w0)) (l:List Tx) (W:World) (e:Ending) (W':World):Prop:=
 (e=.returned (.bool true)/\(∃ys:List (Gc w0),ys.map (·.1)=l/\J (ph++ys) W')/\ti w0.heap.size B W W')\/(e=.returned (.bool false)/\∃q:List (Gc w0),q.map (·.1) <+: l/\Jx (ph++q) W')
theorem MJ (F:Fence) (hd:F.depth=none) (hf:F.fn 162) (hro:F.round=none) (l B N Bj:Nat) (w0:World) (J Jx:List (Gc w0)->World->Prop) (hJ:AbidesFrom Bj J)
  (hY:∀m ph (x:Gc w0) W,J ph W->ph.length<N->YieldAt F m prog l #[x.1.val] W fun e W'=>
   (e=.returned (.bool true)/\J (ph++[x]) W'/\ti w0.heap.size B W W')\/(e=.returned (.bool false)/\Jx (ph++[x]) W')) (M:Nat) :
  ∀(k o t v:Int) (s:ByteArray) (A:Option Addr) (c:Nat) (xs:List Tx),(Tx.mk k o t v s A c xs).size<=M->Mb w0 (.mk k o t v s A c xs)->∀(n:Nat) (ph:List (Gc w0)) (W:World),ik w0 W->B<=W.heap.size->J ph W->ph.length+(Tx.mk k o t v s A c xs).size<=N ->
   CallsIn F n prog 162 #[.agg #[k,o,t,v,s,.slice A xs.length c],.func (.yield l) #[] #[]] W (Lx B J Jx ph (Tx.mk k o t v s A c xs).list W):=by
 induction M with
 |zero=>
  intro k o t v s A c xs hs;simp[Tx.size]at hs
 |succ M ih=>
 intro k o t v s A c xs hs x n ph W a' hB h0 hN;rw[Tx.size]at hs hN;rw[Tx.list];have ab:=x.bounds;simp only[Tx.args,Tx.cap,Tx.name]at ab;obtain⟨aB,aA,az,ay⟩:=ab;have aH:∀i:Nat,(F.depth.isSome=true->1<=i):=fun i h=>by rw[hd]at h;cases h
 have a6:∀(q:List (Gc w0)) (U:World) (ob:Obj),J q U->J q (U.alloc ob):=fun q U ob h=>hJ q U _ none h (World.grownBy_alloc U ob none) (fun r e=>by cases e)
 obtain⟨g,hg⟩:∃g,W.heap.size=g:=⟨_,rfl⟩;obtain⟨W1,aK,I,k1,j1⟩:∃W1,W.alloc (.cells #[k,o,t,v,s,.slice A xs.length c] 73)=W1/\iP W1 g 73 #[k,o,t,v,s,.slice A xs.length c]/\ik W W1/\J ph W1:=⟨_,rfl,by rw[<- hg];exact jC _ _ _,inferInstance,a6 _ _ _ h0⟩;have a1:ik w0 W1:=ij a' k1;obtain⟨fn,aw,ae,aC,hy,hR⟩:=hY (n-1) ph ⟨_,x⟩ W1 j1 (by omega);simp only[Tx.val,txs]at hy;have a7:B<=g:=by omega
 have c0:W1.cell? g=some (.int .i64 k):=by rw[I.cell];rfl
 have c1:W1.cell? ⟨g,1,none⟩=some (.int .i64 o):=by rw[I.cell];rfl
 have c2:W1.cell? ⟨g,2,none⟩=some (.int .i64 t):=by rw[I.cell];rfl
 have c3:W1.cell? ⟨g,3,none⟩=some (.int .i64 v):=by rw[I.cell];rfl
 have c4:W1.cell? ⟨g,4,none⟩=some (.string s):=by rw[I.cell];rfl
 have c5:W1.cell? ⟨g,5,none⟩=some (.slice A xs.length c):=by rw[I.cell];rfl
 have l1:=I.is_le;have K1:ti w0.heap.size B W W1:=ti.after a'.below.size k1;replace I:=iB I;replace a6:=iB a6;replace ih:=iB ih;replace x:=iB x;replace K1:=iB K1;replace hY:=iB hY;refine callsIn_of_wp func162 rfl hf ?_ hro;simp only[ntmps162,Fu,py,wJ,Nat.reduceAdd,Nat.reduceSub,Fw,EO,EY,FK,sb,lP]
 gi_wp2
 refine hR.mono ?_;rintro e W2 (⟨rfl,j2,k2⟩ | ⟨rfl,ag⟩)
 ·replace K1:=iy (K1.trans k2)
  have a2:=k2.aft a1;replace I:=iy (k2.blk a7 I);have d5:W2.cell? ⟨g,5,none⟩=some (.slice A xs.length c):=by rw[I.out.cell];rfl
  have l2:=I.is_le;have aL:=jW a7 (CQ I.lt)
  gi_wp2
  gi_loopw [14] (fun i wr=>∃(j:Nat) (ys:List (Gc w0)),j<=xs.length/\i=.int .i64 (j:Nat)/\Hid (ys.map (·.1)=Tx.mk k o t v s A c xs::Tx.lists (xs.take j))/\Hid (J (ph++ys) wr)/\Hid (ti w0.heap.size B W wr)/\Hid (iP wr g 73 #[k,o,t,v,s,.slice A xs.length c])) (fun i _=>xs.length-(intOf i).toNat)
  case atStart=>exact⟨0,[⟨_,x⟩],by omega,rfl,by show _=_;simp[Tx.lists],j2,K1,I⟩
  case round=>
  obtain⟨j,ys,hj,rfl,HM,HJ,K1,I⟩:=hrel;have a2:ik w0 wr:=K1.aft a';have d5:wr.cell? ⟨g,5,none⟩=some (.slice A xs.length c):=by rw[I.out.cell];rfl
  have l2:=I.is_le;have al:B<=wr.heap.size:=jW a7 (CQ I.lt);by_cases ai:j<xs.length
  ·have ax:(j:Int)<(xs.length:Int):=by omega
   obtain⟨b,p,k1,o1,t1,v1,s1,A1,c1,R,rfl,aI,a8,aM,e0,e1,e2,e3,e4,e5⟩:=(x.here wr).part (i:=j) ai;have ak:Mb w0 (.mk k1 o1 t1 v1 s1 A1 c1 R):=x.all _ (om a8);have aF:=Tx.sizes_take a8;have aG:=Tx.sizes_mem a8;have aE:=Tx.sizes_take_le xs (j+1);have aD:ys.length=Tx.sizes (xs.take j)+1:=by have:=nQ List.length HM;rw[pE,py,Tx.lists_length]at this;exact this
   have ad:=iB (Tx.lists_take a8);have ar:Hid ((ph++ys).length+(Tx.mk k1 o1 t1 v1 s1 A1 c1 R).size<=N):=by show _<=_;rw[mo];omega
   have au:Hid ((Tx.mk k1 o1 t1 v1 s1 A1 c1 R).size<=M):=by show _<=_;omega
   obtain⟨g2,aj⟩:=jt (wr.heap.size);obtain⟨W3,aJ,b3,k3,j3⟩:∃W3,wr.alloc (.cells #[k1,o1,t1,v1,s1,.slice A1 R.length c1] 73)=W3/\Hid (iP W3 g2 73 #[k1,o1,t1,v1,s1,.slice A1 R.length c1])/\ik wr W3/\Hid (J (ph++ys) W3):=⟨_,rfl,by rw[<- aj];exact jC _ _ _,iR,a6 _ _ _ HJ⟩;have a3:ik w0 W3:=ij a2 k3;have an:B<=W3.heap.size:=jW al k3.below.size;have f0:W3.cell? g2=some (.int .i64 k1):=by rw[b3.out.cell];rfl
   have f1:W3.cell? ⟨g2,1,none⟩=some (.int .i64 o1):=by rw[b3.out.cell];rfl
   have f2:W3.cell? ⟨g2,2,none⟩=some (.int .i64 t1):=by rw[b3.out.cell];rfl
   have f3:W3.cell? ⟨g2,3,none⟩=some (.int .i64 v1):=by rw[b3.out.cell];rfl
   have f4:W3.cell? ⟨g2,4,none⟩=some (.string s1):=by rw[b3.out.cell];rfl
   have f5:W3.cell? ⟨g2,5,none⟩=some (.slice A1 R.length c1):=by rw[b3.out.cell];rfl
   have l3:=b3.is_le;have HC:=iB (ih k1 o1 t1 v1 s1 A1 c1 R au ak (n-1) (ph++ys) W3 a3 an j3 ar);have K3:=iB (K1.trans (ti.after a2.below.size k3));have aq:=iB (I.after (w':=W3))
   gi_wp2_with fail
   refine HC.mono ?_;rintro e W4 (⟨rfl,⟨a_,ah,j4⟩,k4⟩ | ⟨rfl,q,hq,af⟩)
   ·have av:Hid ((ys++a_).map (·.1)=Tx.mk k o t v s (some ⟨b,p,none⟩) c xs::Tx.lists (xs.take (j+1))):=by show _=_;rw[s_,HM.out,ah,ad.out,lP]
    have aa:Hid (J (ph++(ys++a_)) W4):=by rw[<- kD];exact j4
    have K4:=iy (K3.trans k4);have ao:=iy (k4.blk a7 aq)
    gi_wp2
    go_roundw
    case rel=>exact⟨j+1,ys++a_,iu,by go_num,av,aa,K4,ao⟩
    case measure=>simp[intOf];omega
   have HP:Hid ((ys++q).map (·.1) <+: Tx.mk k o t v s (some ⟨b,p,none⟩) c xs::Tx.lists xs):=by
    have h2:=Tx.lists_append (xs.take (j+1)) (xs.drop (j+1));rw[Gv,ad.out]at h2;show _ <+: _
    rw[s_,HM.out,h2,lP,kD];exact List.cons_prefix_cons.2 ⟨rfl,(List.prefix_append_right_inj _).2 (hq.trans (List.prefix_append _ _))⟩
   have aa:Hid (Jx (ph++(ys++q)) W4):=by rw[<- kD];exact af
   gi_wp2
   go_ret;exact .inr ⟨rfl,ys++q,HP,aa⟩
  obtain rfl:j=xs.length:=iu
  gi_wp2
  go_ret;exact .inl ⟨rfl,⟨ys,by have:=HM.out;rwa [pf]at this,HJ⟩,K1⟩
 gi_wp2
 go_ret;exact .inr ⟨rfl,[⟨_,x⟩],by simp,ag⟩
theorem K0 (F:Fence) (hd:F.depth=none) (n:Nat) (hc:F.fn 161) (hf:F.fn 162) (hro:F.round=none) (l g B Bj:Nat) (w0:World) (J Jx:List (Gc w0)->World->Prop) (hJ:AbidesFrom Bj J)
  (k o t v:Int) (s:ByteArray) (A:Option Addr) (c:Nat) (xs:List Tx) (x:Mb w0 (.mk k o t v s A c xs))
  (hY:∀ph (x:Gc w0) W,J ph W->ph.length<(Tx.mk k o t v s A c xs).size->YieldAt F (n-1) prog l #[x.1.val] W fun e W'=>
   (e=.returned (.bool true)/\J (ph++[x]) W'/\ti w0.heap.size B W W')\/(e=.returned (.bool false)/\Jx (ph++[x]) W'))
  (W:World) (aft:ik w0 W) (hB:B<=W.heap.size) (hg:iP W g 73 #[k,o,t,v,s,.slice A xs.length c]) (h0:J [] W) :
  CallsIn F n prog 161 #[.func (.yield l) #[] #[],.pointer (some g)] W fun e W'=>(∃v,e=.returned v) /\
   ((∃ys:List (Gc w0),ys.map (·.1)=(Tx.mk k o t v s A c xs).list/\J ys W')\/(∃ph:List (Gc w0),ph.map (·.1) <+: (Tx.mk k o t v s A c xs).list/\Jx ph W')):=by
 have a1:∀i:Nat,(F.depth.isSome=true->1<=i):=fun i h=>by rw[hd]at h;cases h
 have HC:=iB (MJ F hd hf hro l B (Tx.mk k o t v s A c xs).size Bj w0 J Jx hJ (fun m ph x W hj hl=>AI hd m (hY ph x W hj hl)) _ k o t v s A c xs (js _) x (n-1) [] W aft hB h0 (by simp));have c0:W.cell? g=some (.int .i64 k):=by rw[hg.cell];rfl
 have c1:W.cell? ⟨g,1,none⟩=some (.int .i64 o):=by rw[hg.cell];rfl
 have c2:W.cell? ⟨g,2,none⟩=some (.int .i64 t):=by rw[hg.cell];rfl
 have c3:W.cell? ⟨g,3,none⟩=some (.int .i64 v):=by rw[hg.cell];rfl
 have c4:W.cell? ⟨g,4,none⟩=some (.string s):=by rw[hg.cell];rfl
 have c5:W.cell? ⟨g,5,none⟩=some (.slice A xs.length c):=by rw[hg.cell];rfl
 have hl:=hg.is_le;replace hY:=iB hY;replace hg:=iB hg;refine callsIn_of_wp func161 rfl hc ?_ hro;simp only[ntmps161,Fu,py,wJ,Nat.reduceAdd,Nat.reduceSub,Fw,EO,EY,FK,sb,lP]
 gi_wp2_with fail
 refine HC.mono ?_;rintro e W4 (⟨rfl,⟨j,R,j4⟩,k4⟩ | ⟨rfl,q,hq,I⟩)
 ·have H1:=iy R
  have U:=iy j4
  gi_wp2
  go_end0;exact⟨⟨_,rfl⟩,.inl ⟨j,H1,U⟩⟩
 have H1:=iy hq;have U:=iy I
 gi_wp2
 go_end0;exact⟨⟨_,rfl⟩,.inr ⟨q,H1,U⟩⟩
theorem GO (F:Fence) (hd:F.depth=none) (n:Nat) (hc:F.fn 161) (hf:F.fn 162) (hro:F.round=none) (g B:Nat) (w0:World) (k o t v:Int) (s:ByteArray) (A:Option Addr) (c:Nat) (xs:List Tx) (x:Mb w0 (.mk k o t v s A c xs)) (w:World)
  (aft:ik w0 w) (hB:B<=w.heap.size) (hg:iP w g 73 #[k,o,t,v,s,.slice A xs.length c]) :
  SeqStopsK F n prog 161 #[.pointer (some g)] (fun x:Gc w0=>#[x.1.val]) (ti w0.heap.size B) (fun ys=>ys.map (·.1)=(Tx.mk k o t v s A c xs).list) (fun ph=>ph.map (·.1) <+: (Tx.mk k o t v s A c xs).list) (Tx.mk k o t v s A c xs).size w:=fun l J Jx W hW hJ _ hY h0=>
 K0 F hd n hc hf hro l g B _ w0 J Jx hJ k o t v s A c xs x hY W (ij aft ⟨hW⟩) (jW hB hW.size) ((hW.block g hg.lt).trans hg) h0
attribute [local go_sem] Oper.semAt_some
def BN {w0:World} (l:List (Gc w0)):List Tx:=l.map (·.1)
theorem Lu {w0:World} (l:List (Gc w0)) (x:Gc w0):BN (l++[x])=BN l++[x.1]:=by simp[BN]
theorem Ms {x:nB iW} {k o t v:Int} {s:ByteArray} {A:Option Addr} {c:Nat} {xs:List Tx} {w0:World} (h:ir 2 sM w0 x) (hs:(Tx.mk k o t v s A c xs).size<=2000000) (h0:vj (.mk k o t v s A c xs)=0) (hX:RX w0 (.mk k o t v s A c xs)) (hB:FY (.mk k o t v s A c xs)) (w:World) (aft:ik w0 w) :
  CallsIn Fence.wide 3 prog 79 #[.slice x.A x.l.length x.c,.agg #[k,o,t,v,s,.slice A xs.length c]] w fun e w'=>e=.returned (.int .i64 (lv x.l (Tx.mk k o t v s A c xs).list))/\ik w w':=by
 have HZ:Hid (∀U,ik w0 U->CallsIn Fence.wide 2 prog 123 #[.agg #[k,o,t,v,s,.slice A xs.length c]] U fun e w'=>e=.returned (.int .i64 0)/\ik U w'):=iB fun U hU=>by
  have:=KS hs hX U hU;rw[h0]at this;exact callsIn_wide.2 this
 refine callsIn_of_wp_marks func79 rfl trivial ?_ rfl;simp only[ntmps79,Fu,py,wJ,Nat.reduceAdd,Nat.reduceSub,Fw,EO,EY,FK,sb,lP]
 gi_wp2_with fail
 refine⟨trivial,(HZ _ (by infer_instance)).mono ?_⟩;rintro _ w1 ⟨rfl,ha⟩;obtain⟨y1,rfl⟩:=@jP _ _ ha
 gi_wp2_with fail
 obtain⟨V,hV,bV,nV,aV,sV⟩:∃V,(((w.alloc (.cells #[.slice x.A x.l.length x.c] 22)).alloc (.cells #[k,o,t,v,s,.slice A xs.length c] 73)).alloc (.cells #[.int .i64 0] 26)).more y1=V/\iP V (w.heap.size+1+1) 26 #[.int .i64 0]/\iP V w.heap.size 22 #[.slice x.A x.l.length x.c]/\ik w V/\w.heap.size+3<=V.heap.size:=by
  refine⟨_,rfl,?_,?_,inferInstance,?_⟩
  ·have:=jC ((w.alloc (.cells #[.slice x.A x.l.length x.c] 22)).alloc (.cells #[k,o,t,v,s,.slice A xs.length c] 73)) 26 #[.int .i64 0]
   simp only[World.size_alloc]at this;exact this.more _
  ·exact (((jC w 22 #[.slice x.A x.l.length x.c]).alloc _).alloc _).more _
  have h2:=ik.size (((w.alloc (.cells #[.slice x.A x.l.length x.c] 22)).alloc (.cells #[k,o,t,v,s,.slice A xs.length c] 73)).alloc (.cells #[.int .i64 0] 26)) ((((w.alloc (.cells #[.slice x.A x.l.length x.c] 22)).alloc (.cells #[k,o,t,v,s,.slice A xs.length c] 73)).alloc (.cells #[.int .i64 0] 26)).more y1);simpa using h2
 rw[hV];refine⟨trivial,(yT Fence.wide 2 trivial rfl k o t v s A c xs _).mono ?_⟩;rintro e w' ⟨rfl,rfl⟩
 gi_wp2_with fail
 obtain⟨g,I⟩:∃g,V.heap.size=g:=⟨_,rfl⟩;obtain⟨U,hU,ah,nU,bU,bE,kU⟩:∃U,V.alloc (.cells #[k,o,t,v,s,.slice A xs.length c] 73)=U/\U.heap.size=g+1/\iP U w.heap.size 22 #[.slice x.A x.l.length x.c]/\iP U (w.heap.size+1+1) 26 #[.int .i64 0]/\iP U g 73 #[k,o,t,v,s,.slice A xs.length c]/\ik w U:=
  ⟨_,rfl,by simp[I],nV.alloc _,bV.alloc _,by rw[<- I];exact jC V _ _,inferInstance⟩
 have a8:=GO Fence.wide rfl 2 trivial trivial rfl g g w0 k o t v s A c xs ⟨hX,hB⟩ U (ij aft kU) (by omega) bE;have aj:=aft.below.size;rw[hU,I];rw[I]at sV;refine wpIn_rangeFunc_ownH rfl (by decide) (gf:=161) (lb:=#[.pointer (some g)]) rfl trivial (enters_of func161 (by kernel_rfl) rfl) a8 ti.trans (ti.PY (by omega)) (Below.refl _ _) (fun _=>rfl)
  (fun j W=>iP W (w.heap.size+1+1) 26 #[.int .i64 0]/\Hid (lv x.l (BN j)=0)/\Below w.heap.size w W/\U.heap.size<=W.heap.size/\iP W w.heap.size 22 #[.slice x.A x.l.length x.c])
  (fun c j W=>c=.ret/\iP W (w.heap.size+1+1) 26 #[.int .i64 (lv x.l (BN j))]/\Hid (lv x.l (BN j)≠0)/\Below w.heap.size w W)
  (fun s A B aa hs I hr=>⟨hs.1.grown I (fun e=>by have:=(hr _ e.symm).1;omega),hs.2.1,hs.2.2.1.grown I hs.2.2.1.size (fun k e=>by have:=(hr _ e).1;omega),jW hs.2.2.2.1 I.size,hs.2.2.2.2.grown I (fun e=>by have:=(hr _ e.symm).1;omega)⟩)
  (fun c s A B aa hs I hr=>⟨hs.1,hs.2.1.grown I (fun e=>by have:=(hr _ e.symm).1;omega),hs.2.2.1,hs.2.2.2.grown I hs.2.2.2.size (fun k e=>by have:=(hr _ e).1;omega)⟩) ⟨bU,rfl,kU.below,js _,nU⟩
  (fun y a' W=>J_ U.heap.size (fun p=>{ tmps:=#[.slice x.A x.l.length x.c,.agg #[k,o,t,v,s,.slice A xs.length c],.pointer (some ⟨w.heap.size,0,none⟩),.pointer (some ⟨w.heap.size+1,0,none⟩),.pointer (some ⟨w.heap.size+1+1,0,none⟩),.int .i64 0,p,undef,.agg #[k,o,t,v,s,.slice A xs.length c],.int .i64 0,.int .i64 0,.bool false,undef,.agg #[k,o,t,v,s,.slice A xs.length c],.func (.func 161) #[] #[.pointer (some g)],y.1.val,undef,undef,undef,undef,undef,undef],defers:=[] }) y.1 a' W)
  (fun x a'=>At) ?assign ?body ?done ?stop
 case assign=>
  rintro l j ⟨⟨k1,o1,t1,v1,s1,A1,c1,ai⟩,hx⟩ W K ⟨i1,i2,R,i4,i5⟩ hK;simp only[Tx.val,txs]
  gi_wp2
  exact hK _ _ ((KeepsOthers.alloc _ _).from _) (ti.after (by omega) inferInstance) ⟨i1.alloc _,i2,R.alloc R.size _,by simp;omega,i5.alloc _⟩ ⟨W.heap.size,i4,jC _ _ _,rfl⟩
 case body=>
  rintro l j ⟨e,hx⟩ a' W hl _ ⟨i1,i2,R,i4,i5⟩ ⟨Bx,al,bX,rfl⟩ ak;have c0:W.cell? Bx=some (.int .i64 e.kind):=by rw[bX.cell];rfl
  have c1:W.cell? ⟨Bx,1,none⟩=some (.int .i64 e.op):=by rw[bX.cell];rfl
  have c2:W.cell? ⟨Bx,2,none⟩=some (.int .i64 e.ty):=by rw[bX.cell];rfl
  have c3:W.cell? ⟨Bx,3,none⟩=some (.int .i64 e.va):=by rw[bX.cell];rfl
  have c4:W.cell? ⟨Bx,4,none⟩=some (.string e.name):=by rw[bX.cell];rfl
  have c5:W.cell? ⟨Bx,5,none⟩=some (.slice e.ad e.args.length e.cap):=by rw[bX.cell];rfl
  have lX:=bX.is_le;have n0:W.cell? ⟨w.heap.size,0,none⟩=some (.slice x.A x.l.length x.c):=by rw[i5.cell];rfl
  have ln:=i5.is_le;obtain⟨r,hr⟩:∃r,Bl x.l e=r:=⟨_,rfl⟩;have HC:Hid (∀m,CallsIn (Fence.wide.inRound l) m prog 125 #[.slice x.A x.l.length x.c,.agg #[.int .i64 e.kind,.int .i64 e.op,.int .i64 e.ty,.int .i64 e.va,.string e.name,.slice e.ad e.args.length e.cap]] W fun en w'=>en=.returned (.int .i64 r)/\ik W w'):=iB fun m=>by
   have hb:=hx.bounds;have:=GM h W (ij aft ⟨R⟩) e.kind e.op e.ty e.va e.name e.ad e.args.length e.cap hx.2.ty hb.2.2.2;rw[show Dl x.l e.kind e.ty e.va e.args.length=r from hr]at this;exact CallsIn.inRound l (callsIn_wide.2 this)
  have a6:Hid (lv x.l (BN (j++[⟨e,hx⟩]))=r):=by show _=_;rw[Lu,IA,iG i2.out,hr]
  gi_wp2_with fail
  refine⟨trivial,(HC _).mono ?_⟩;rintro _ w2 ⟨rfl,ha⟩;have J:iP w2 (w.heap.size+1+1) 26 #[.int .i64 0]:=i1.after (k:=ha);have a7:Below w.heap.size w w2:=R.trans (ha.below.mono R.size);have ae:U.heap.size<=w2.heap.size:=jW i4 ha.below.size;have cr:w2.cell? ⟨w.heap.size+1+1,0,none⟩=some (.int .i64 0):=by rw[J.cell];rfl
  have fr:=J.frozen 0;have lr:=J.is_le;have ab:iP w2 w.heap.size 22 #[.slice x.A x.l.length x.c]:=i5.after (k:=ha);by_cases h0:r=0
  ·subst h0
   gi_wp2
   exact⟨(KeepsOthers.rJ ha).from _,ti.after (by omega) ha,J,a6,a7,ae,ab⟩
  have an:(r != 0)=true:=by simpa using h0
  gi_wp2
  refine⟨((KeepsOthers.rJ ha).trans (KeepsOthers.setCell _ _ _)).from _,rfl,?_,?_,a7.setCell (p:=⟨w.heap.size+1+1,0,none⟩) (by show w.heap.size<=w.heap.size+1+1;omega) _⟩
  ·rw[a6.out];exact J.jx 0 (.int .i64 r)
  show _≠_;rw[a6.out];exact h0
 case done=>
  rintro D ys W hD af ⟨i1,i2,R,i4,i5⟩ hK;have HS:Hid (lv x.l (Tx.mk k o t v s A c xs).list=0):=by have:=i2.out;rwa [show BN ys=_ from af]at this
  have c2:W.cell? ⟨w.heap.size+1+1,0,none⟩=some (.int .i64 0):=by rw[i1.cell];rfl
  have f2:=i1.frozen 0;have l2:=i1.is_le;have i5:=iB (i1.jx 0 (.int .i64 0));have a1:=(KeepsOthers.setCell W ⟨w.heap.size+1+1,0,none⟩ (.int .i64 0)).same D _ hK rfl;have ck:((W.setCell ⟨w.heap.size+1+1,0,none⟩ (.int .i64 0)).putObj D (.deferred none)).cell? ⟨w.heap.size+1+1,0,none⟩=some (.int .i64 0):=cell_kept (by rw[i5.out.cell];rfl) (grownBy_putObj' _ D (.deferred none)) (fun r e=>by cases e;exact⟨_,a1,rfl⟩);have ag:=(R.setCell (p:=⟨w.heap.size+1+1,0,none⟩) (by show w.heap.size<=w.heap.size+1+1;omega) (.int .i64 0)).trans (belowK_b (w:=w) (js _) (W.setCell ⟨w.heap.size+1+1,0,none⟩ (.int .i64 0)) D _ (.deferred none) (by omega) a1 rfl rfl)
  gi_wp2
  refine⟨by simp,.inl ⟨_,_,rfl,run_takeDeferred a1,?_⟩⟩;exact⟨.int .i64 0,by simp[results,results79,go_sem,ck],by rw[HS.out],⟨ag⟩⟩
 case stop=>
 rintro D c j W hD a_ ⟨rfl,i1,i2,R⟩ hK;have HS:=iy (Ji x.l (show BN j <+: _ from a_) i2);have ck:(W.putObj D (.deferred none)).cell? ⟨w.heap.size+1+1,0,none⟩=some (.int .i64 (lv x.l (BN j))):=cell_kept (by rw[i1.cell];rfl) (grownBy_putObj' _ D (.deferred none)) (fun r e=>by cases e;exact⟨_,hK,rfl⟩)
 gi_wp2
 refine⟨by simp,.inl ⟨_,_,rfl,run_takeDeferred hK,?_⟩⟩;exact⟨.int .i64 (lv x.l (BN j)),by simp[results,results79,go_sem,ck],by rw[HS.out],⟨R.trans (belowK_b (w:=w) (js _) W D _ _ (by omega) hK rfl rfl)⟩⟩
theorem zX {x:nB iW} {k o t v:Int} {s:ByteArray} {A:Option Addr} {c:Nat} {xs:List Tx} {w0:World} (h:ir 2 sM w0 x) (hs:(Tx.mk k o t v s A c xs).size<=2000000) (hX:RX w0 (.mk k o t v s A c xs)) (hB:FY (.mk k o t v s A c xs)) (w:World) (aft:ik w0 w) :
  Calls prog 79 #[.slice x.A x.l.length x.c,.agg #[k,o,t,v,s,.slice A xs.length c]] w fun e w'=>e=.returned (.int .i64 (qk x.l (.mk k o t v s A c xs)))/\ik w w':=by
 by_cases j:vj (.mk k o t v s A c xs)=0
 ·have:=(callsIn_wide (n:=3)).1 (Ms h hs j hX hB w aft)
  unfold qk;rw[iG j];exact this
 have I:Hid (qk x.l (.mk k o t v s A c xs)=vj (.mk k o t v s A c xs)):=by show _=_;unfold qk;rw[iV j]
 have J:Hid (∀U,ik w0 U->Calls prog 123 #[.agg #[k,o,t,v,s,.slice A xs.length c]] U fun e w'=>e=.returned (.int .i64 (vj (.mk k o t v s A c xs)))/\ik U w'):=iy fun U hU=>KS hs hX U hU
 obtain⟨q,R⟩:=jt (vj (.mk k o t v s A c xs));rw[R]at I J j;have z1:(q==0)=false:=by rw[beq_eq_false_iff_ne];exact j
 go_in;go_wp2_with fail;refine (J _ iR).mono ?_;rintro _ w1 ⟨rfl,ha⟩;obtain⟨y1,rfl⟩:=@jP _ _ ha;go_wp2_with fail;refine jR (v:=.int .i64 q) (by simp[results,results79,go_sem]) rfl ⟨by rw[I.out],iR⟩
section
open Go.RowKit Go.BigFrame
def jD (a b:Int):Int:=if a=0 then b else a
theorem lR {a b:Int} (h:a≠0):jD a b=a:=iV h
theorem kC {a b:Int} (h:a=0):jD a b=b:=iG h
theorem Lf (a b c:Int):jD (jD a b) c=jD a (jD b c):=by unfold jD;by_cases h:a=0<;>simp[h]
theorem kE (a:Int):jD a 0=a:=by unfold jD;split<;>omega
def iX (b:Bool) (e:Int):Int:=if b then 0 else e
def iw {α:Type} (f:α->Int):List α->Int
 |[]=>0
 |x::l=>jD (f x) (iw f l)
theorem xY {α:Type} (f:α->Int) (l m:List α):iw f (l++m)=jD (iw f l) (iw f m):=by
 induction l with
 |nil=>simp[iw,jD]
 |cons a l ih=>rw[lP,iw,iw,ih,Lf]
theorem kt {α:Type} (f:α->Int) {l:List α} {j:Nat} {x:α} (h:l[j]?=some x) (h0:iw f (l.take j)=0):iw f (l.take (j+1))=f x:=by
 rw[List.take_add_one,h,xY,kC h0];simp[iw,kE]
theorem kN {α:Type} (f:α->Int) {l:List α} {j:Nat} {x:α} (h:l[j]?=some x) (h0:iw f (l.take j)=0) (hx:f x≠0):iw f l=f x:=by
 have o:=xY f (l.take (j+1)) (l.drop (j+1));rw[Gv,kt f h h0,lR hx]at o;exact o
theorem lh {α:Type} (f:α->Int) {l:List α} {j:Nat} (hj:¬j<l.length) (h0:iw f (l.take j)=0):iw f l=0:=by
 rwa [Dn iu]at h0
def jA (s:ByteArray):Int:=iX (kT s) 6
def oy (u:iW):Int:=jD (jA u.name) (jD (iX (decide ((0:Int)<(u.tags.l.length:Int))) 8) (jD (iX (decide ((u.tags.l.length:Int)<=16)) 3) (iw jA u.tags.l)))
def vR (en:List iW) (o:sO):Int:=jD (jA o.name) (iX (!(o.t==2)&&nq en o.t o.tag) 5)
def jN (en:List iW) (port:Bool) (d:iO):Int:=
 jD (jA d.name) (jD (iX (decide ((0:Int)<(jV en d.ty:Int))) 10) (jD (iX (!port||(d.clock.l.length:Int)==0) 11) (jD (iX (decide ((d.clock.l.length:Int)<=4)) 3) (iw (vR en) d.clock.l))))
def nN (en:List iW) (port:Bool) (l:List iO):Int:=iw (jN en port) l
noncomputable def rN (en:List iW) (q:oX):Int:=
 jD (iX (decide ((0:Int)<(q.left.l.length:Int))) 8) (jD (iX (decide ((q.left.l.length:Int)<=64)) 3) (jD (iw jA q.left.l) (jD (qk en q.right) (iX ((q.left.l.length:Int)==1||q.right.kind==10) 5))))
noncomputable def tx (en:List iW) (n:Nat) (strong:Bool) (t:ma):Int:=
 jD (iX (decide (0<=t.dst)&&decide (t.dst<(n:Int))) 14) (jD (qk en t.cond) (iX (!strong||jL t.cond.list) 5))
mutual
noncomputable def AM (en:List iW) (n d:Nat):StT->Int
 |.mk nm lo eq _ _ au ul ut=>jD (jA nm) (jD (iX (decide ((lo.l.length:Int)<=256)&&(decide ((eq.l.length:Int)<=256)&&(decide ((au.length:Int)<=8)&&(decide ((ul.l.length:Int)<=4)&&decide ((ut.l.length:Int)<=4))))) 3)
  (jD (nN en false lo.l) (jD (iw (rN en) eq.l) (jD (yu en (d+1) au) (jD (iw (tx en n true) ul.l) (iw (tx en n false) ut.l))))))
noncomputable def yA (en:List iW) (n d:Nat):List StT->Int
 |[]=>0
 |x::l=>jD (AM en n d x) (yA en n d l)
noncomputable def rK (en:List iW) (d:Nat):AuT->Int
 |.mk _ _ l=>jD (iX (decide ((d:Int)<3)) 3) (jD (iX (decide ((0:Int)<(l.length:Int))) 8) (jD (iX (decide ((l.length:Int)<=8)) 3) (yA en l.length d l)))
noncomputable def yu (en:List iW) (d:Nat):List AuT->Int
 |[]=>0
 |x::l=>jD (rK en d x) (yu en d l)
end
theorem Ff (en:List iW) (d:Nat) (l:List AuT):yu en d l=iw (rK en d) l:=by
 induction l with
 |nil=>rw[yu,iw]
 |cons a l ih=>rw[yu,iw,ih]
theorem EL (en:List iW) (n d:Nat) (l:List StT):yA en n d l=iw (AM en n d) l:=by
 induction l with
 |nil=>rw[yA,iw]
 |cons a l ih=>rw[yA,iw,ih]
theorem yt (en:List iW) (d:Nat) (A:Option Addr) (c:Nat) (l:List StT):rK en d (.mk A c l)=jD (iX (decide ((d:Int)<3)) 3) (jD (iX (decide ((0:Int)<(l.length:Int))) 8) (jD (iX (decide ((l.length:Int)<=8)) 3) (iw (AM en l.length d) l))):=by
 rw[rK,EL]
theorem IY (en:List iW) (n d:Nat) (nm:ByteArray) (lo:nB iO) (eq:nB oX) (A:Option Addr) (c:Nat) (au:List AuT) (ul ut:nB ma):AM en n d (.mk nm lo eq A c au ul ut)=jD (jA nm) (jD (iX (decide ((lo.l.length:Int)<=256)&&(decide ((eq.l.length:Int)<=256)&&(decide ((au.length:Int)<=8)&&(decide ((ul.l.length:Int)<=4)&&decide ((ut.l.length:Int)<=4))))) 3)
  (jD (iw (jN en false) lo.l) (jD (iw (rN en) eq.l) (jD (iw (rK en (d+1)) au) (jD (iw (tx en n true) ul.l) (jD (iw (tx en n false) ut.l) 0)))))):=by
 rw[AM,Ff,kE];rfl
def Ek (en:List iW) (n:nh):Int:=
 jD (jA n.name) (jD (iX (decide ((n.ins.l.length:Int)<=64)&&(decide ((n.outs.l.length:Int)<=64)&&(decide ((n.locals.l.length:Int)<=256)&&(decide ((n.eqs.l.length:Int)<=256)&&(decide ((n.autos.l.length:Int)<=8)&&(decide ((n.assume.l.length:Int)<=8)&&decide ((n.ensure.l.length:Int)<=8))))))) 3)
  (jD (iX (decide ((0:Int)<(n.outs.l.length:Int))) 8) (jD (nN en true n.ins.l) (jD (nN en true n.outs.l) (nN en false n.locals.l)))))
noncomputable def KN (en:List iW) (n:nh):Int:=jD (iw (rK en 0) n.autos.l) (jD (iw (qk en) n.assume.l) (iw (qk en) n.ensure.l))
theorem tT {w0:World} {g A n c nd q} (h:pK w0 g A n c nd q) (s:ByteArray) (hs:s.size<=140737488355328) (w:World) (hw:ik w0 w) :
  Calls prog 74 #[.pointer (some ⟨g,0,none⟩),.string s] w fun e w'=>PE w nd q (jA s) e w':=by
 have J:=iy (fun (U:World)=>Ap s hs U);have I:Hid (∀U,ik w0 U->Calls prog 39 #[.pointer (some ⟨g,0,none⟩),.bool (kT s),.int .i64 6] U fun e w'=>PE U nd q (jA s) e w'):=iy fun U hU=>rC (h.here U (k:=hU)) (kT s) 6 iI
 obtain⟨b,hb⟩:=jt (kT s);obtain⟨R,hR⟩:=jt (jA s);rw[hb]at J I;rw[hR]at I⊢;go_in;go_wp2_with fail;refine (J w).mono ?_;rintro e w1 ⟨rfl,o⟩;go_wp2_with fail;refine (I w1 (ij hw o)).mono ?_;rintro e w2 hp;by_cases hE:R=0
 ·subst hE
  obtain⟨rfl,j⟩:=hp.Tw;go_wp2;go_end0;exact zF (ij o j)
 obtain⟨rfl,j⟩:=hp.Oq hE;unfold uw;go_wp2;exact⟨rfl,CS hE (ij o j)⟩
theorem K_ {w0:World} {g A n c nd q} (h:pK w0 g A n c nd q) (s:ByteArray) (hs:s.size<=140737488355328) (x:nB ByteArray) (hx:ir 1 sR w0 x) (w:World) (hw:ik w0 w) :
  Calls prog 40 #[.pointer (some ⟨g,0,none⟩),.agg #[.string s,.slice x.A x.l.length x.c]] w fun e w'=>PE w nd q (oy ⟨s,x⟩) e w':=by
 have HI:Hid (∀s:ByteArray,s.size<=140737488355328->∀U,ik w0 U->Calls prog 74 #[.pointer (some ⟨g,0,none⟩),.string s] U fun e w'=>PE U nd q (jA s) e w'):=fun s hs U hU=>tT h s hs U hU
 have HM:Hid (∀b e,e≠0->∀U,ik w0 U->Calls prog 39 #[.pointer (some ⟨g,0,none⟩),.bool b,.int .i64 e] U fun e' w'=>PE U nd q (iX b e) e' w'):=fun b e he U hU=>rC (h.here U (k:=hU)) b e he
 obtain⟨R,hR⟩:=jt (oy ⟨s,x⟩);have o:Hid (R=jD (jA s) (jD (iX (decide ((0:Int)<(x.l.length:Int))) 8) (jD (iX (decide ((x.l.length:Int)<=16)) 3) (jD (iw jA x.l) 0)))):=by
  show _=_
  rw[<- hR,kE];rfl
 rw[hR];obtain⟨A1,c1,l⟩:=x;simp only[]at o⊢;have XX:=iy hx;have an:=hx.len;simp only[]at an;obtain⟨W1,aq,HK,a1⟩:∃W1,w.alloc (.cells #[.string s,.slice A1 l.length c1] 57)=W1/\Hid (∀U:World,ik W1 U->U.cell? ⟨w.heap.size,0,none⟩=some (.string s)/\U.cell? ⟨w.heap.size,1,none⟩=some (.slice A1 l.length c1)/\Le (w.heap.size+1) U)/\ik w W1:=by
  refine⟨_,rfl,fun U hU=>?_,iR⟩;have y0:=(jC w 57 #[.string s,.slice A1 l.length c1]).after (w':=U);exact⟨by rw[y0.cell];rfl,by rw[y0.cell];rfl,y0.is_le⟩
 obtain⟨k0,k1,kl⟩:=HK W1 iR;have af:=a1;go_in;go_wp2_with fail;refine (HI s hs W1 (ij hw a1)).mono ?_;rintro e w2 hp;by_cases hE:jA s=0;rotate_left
 ·obtain⟨F,hF,HP⟩:∃F,e=uw nd q F/\Hid (PE w nd q R (uw nd q F) w2):=by
   obtain⟨rfl,a7⟩:=hp.Oq hE;have HX:=iy (o.trans (lR hE));have HE:Hid (R=jA s):=HX;exact⟨_,rfl,iy (by rw[HE.out];exact CS hE (ij a1 a7))⟩
  subst hF;unfold uw;go_wp2;exact⟨rfl,HP⟩
 replace o:=iy (o.trans (kC hE));obtain⟨rfl,a7⟩:=hp.Rv hE;have d2:=ij a1 a7;have b2:=ij (iq W1) a7;obtain⟨k0,k1,kl⟩:=HK w2 (b2);go_wp2_with fail;refine (HM _ 8 iI w2 (ij hw d2)).mono ?_;rintro e w3 hp;replace hp:=hp.to (F:=iX (decide ((0:Int)<(l.length:Int))) 8) (nQ (fun b=>iX b 8) (decide_eq_decide.2 iu));by_cases hE:iX (decide ((0:Int)<(l.length:Int))) 8=0;rotate_left
 ·obtain⟨F,hF,HP⟩:∃F,e=uw nd q F/\Hid (PE w nd q R (uw nd q F) w3):=by
   obtain⟨rfl,a6⟩:=hp.Oq hE;have HX:=iy (o.trans (lR hE));have HE:Hid (R=iX (decide ((0:Int)<(l.length:Int))) 8):=HX;exact⟨_,rfl,iy (by rw[HE.out];exact CS hE (ij d2 a6))⟩
  subst hF;unfold uw;go_wp2;exact⟨rfl,HP⟩
 replace o:=iy (o.trans (kC hE));obtain⟨rfl,a6⟩:=hp.Rv hE;have d3:=ij d2 a6;have b3:=ij (b2) a6;obtain⟨k0,k1,kl⟩:=HK w3 (b3);go_wp2_with fail;refine (HM _ 3 (by decide) w3 (ij hw d3)).mono ?_;rintro e w4 hp;replace hp:=hp.to (F:=iX (decide ((l.length:Int)<=16)) 3) (nQ (fun b=>iX b 3) (decide_eq_decide.2 iu));by_cases hE:iX (decide ((l.length:Int)<=16)) 3=0;rotate_left
 ·obtain⟨F,hF,HP⟩:∃F,e=uw nd q F/\Hid (PE w nd q R (uw nd q F) w4):=by
   obtain⟨rfl,aa⟩:=hp.Oq hE;have HX:=iy (o.trans (lR hE));have HE:Hid (R=iX (decide ((l.length:Int)<=16)) 3):=HX;exact⟨_,rfl,iy (by rw[HE.out];exact CS hE (ij d3 aa))⟩
  subst hF;unfold uw;go_wp2;exact⟨rfl,HP⟩
 replace o:=iy (o.trans (kC hE));obtain⟨rfl,aa⟩:=hp.Rv hE;have b4:=ij (b3) aa;obtain⟨k0,k1,kl⟩:=HK w4 (b4);go_wp2_with fail;go_loopw [25] (fun i wr=>∃j:Nat,j<=l.length/\i=.int .i64 (j:Nat)/\Hid (iw jA (l.take j)=0)/\ik W1 wr) (fun i _=>l.length-(intOf i).toNat)
 case atStart=>exact⟨0,iu,rfl,iy (by simp[iw]),b4⟩
 case round=>
 obtain⟨j,hj,rfl,ab,a8⟩:=hrel;have J:ik w wr:=ij af a8;obtain⟨rj,ak⟩:∃r,wr=r:=⟨_,rfl⟩;rw[ak]at a8 J⊢;obtain⟨k0,k1,kl⟩:=HK rj (a8);by_cases a_:j<l.length
 ·have al:(j:Int)<(l.length:Int):=by omega
  obtain⟨bj,pj,yj,rfl,ao,ag,ae⟩:=(XX.strs rj (k:=ij hw J)).part (i:=j) a_;have y0:rj.cell? ⟨bj,pj+j,none⟩=some (.string yj):=by have:=ae.1;rwa [yr]at this
  have aj:=ae.2;have ah:Hid ((jA yj)≠0->R=(jA yj)):=iB fun h=>by
   have h1:=kN jA ag ab h;have h2:R=(jA yj):=o.trans ((lR (by rw[h1];exact h)).trans h1);exact h2
  have I:Hid ((jA yj)=jD (jA yj) 0):=iB (kE _).symm;have ai:Hid ((jA yj)=0->iw jA (l.take (j+1))=0):=iB fun h=>(kt jA ag ab).trans h
  obtain⟨X1,ad⟩:∃X,X=(jA yj):=⟨_,rfl⟩;replace I:=iB (ad.trans I);rw[<- ad]at ah ai;go_wp2_with fail;refine (HI yj aj rj (ij hw J)).mono ?_;rintro e w5 hp;by_cases hE:jA yj=0;rotate_left
  ·obtain⟨F,hF,HP⟩:∃F,e=uw nd q F/\Hid (PE w nd q R (uw nd q F) w5):=by
    obtain⟨rfl,a'⟩:=hp.Oq hE;have HX:=iy (I.trans (lR hE));have HE:=iy ((ah (by rw[HX.out];exact hE)).trans HX);exact⟨_,rfl,iy (by rw[HE.out];exact CS hE (ij J a'))⟩
   subst hF;unfold uw;go_wp2;exact⟨rfl,HP⟩
  replace I:=iy (I.trans (kC hE));obtain⟨rfl,a'⟩:=hp.Rv hE;have b5:=ij (a8) a';obtain⟨k0,k1,kl⟩:=HK w5 (b5);go_wp2;go_roundw
  case rel=>exact⟨j+1,iu,by go_num,iy (ai I),b5⟩
  case measure=>simp only[intOf];omega
 replace o:=iy (o.trans (kC (lh jA a_ ab)));go_wp2;go_end0;exact by have hz:=o.out;rw[hz];exact zF J
end
end Go.Proofs.YtnigblndonocfaaGreatDoor
