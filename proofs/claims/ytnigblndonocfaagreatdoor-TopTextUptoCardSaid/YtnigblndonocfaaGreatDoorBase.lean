/- A part of the proof. -/
import Derived.Test.YtnigblndonocfaaGreatDoorWord
import Derived.Test.YtnigblndonocfaaGreatDoorRows
import Derived.WalkKit
import Derived.ProofKit
import Derived.OpenShut
import Derived.Lib.Hide
import Derived.WalkSpells
import Derived.WalkLawsBesides
import Derived.Below
import Derived.Laws.OwnMore
import Derived.Deep.AppendLies
import Derived.Deep.Draws
import Derived.Deep.QuietTactic
import Derived.BigQuiet
import Derived.Outline
import Derived.Deep.DeepCutAuto
import Derived.Deep.LoopGhost
import Derived.Deep.RegionWith
import Derived.Deep.RegionLaw
import Derived.Deep.RegionHeld3
import Derived.StillTailTactics
set_option linter.unusedVariables false
set_option linter.unusedSimpArgs false
namespace Go.Proofs.YtnigblndonocfaaGreatDoor
open Go.RowKit
instance {a b:Nat}:CoeDep (Nat×Nat) (a,b) Addr:=⟨⟨a,b,none⟩⟩
instance {a b:Nat}:CoeDep (Nat×Nat) (a,b) (Option Addr):=⟨some ⟨a,b,none⟩⟩
instance {a b:Nat}:CoeDep (Nat×Nat) (a,b) (Option Value):=⟨some (.pointer (some ⟨a,b,none⟩))⟩
instance {a:Option Addr} {b c:Nat}:CoeDep (Option Addr×Nat×Nat) (a,b,c) (Option Value):=⟨some (.slice a b c)⟩
instance {a:Option Addr} {b c:Nat}:CoeDep (Option Addr×Nat×Nat) (a,b,c) Value:=⟨.slice a b c⟩
instance {α:Type} {a:Option Addr} {b:List α} {c:Nat}:CoeDep (Option Addr×List α×Nat) (a,b,c) (Option Value):=⟨some (.slice a b.length c)⟩
instance {α:Type} {a:Option Addr} {b:List α} {c:Nat}:CoeDep (Option Addr×List α×Nat) (a,b,c) Value:=⟨.slice a b.length c⟩
instance {w:World} {b:Nat}:CoeDep (World×Nat) (w,b) Addr:=⟨⟨w.heap.size,b,none⟩⟩
instance:Coe Unit Value:=⟨fun _=>.slice none 0 0⟩
def JX:Fin 1:=0
instance:Coe (Fin 1) Value:=⟨fun _=>.int .i64 0⟩
instance:Coe Bool Value:=⟨fun b=>.bool b⟩
instance:Coe Nat Value:=⟨fun n=>.int .i64 n⟩
instance cI:Coe Int Value:=⟨fun x=>.int .i64 x⟩
instance cS:Coe ByteArray Value:=⟨fun x=>.string x⟩
instance cA:Coe Nat Addr:=⟨fun b=>⟨b,0,none⟩⟩
instance {α:Type}:CoeOut (List α) Nat:=⟨List.length⟩
instance:Coe World Nat:=⟨fun w=>w.heap.size⟩
abbrev zc:=@inferInstance
abbrev yB:=ByteArray
abbrev yM:=World
abbrev zA:=Option Addr
abbrev zO:=List Value
theorem rD (a:Addr) (n:Nat):(a.add n).block=a.block:=by unfold Addr.add;split<;>rfl
def oZ (w:yM) (B size:Nat) (A:zA) (n:Nat) (xs:zO):Prop:=
 xs=n*size/\(0<n->∃ad,A=some ad/\ad.block<B/\∀j u,xs[j]?=some u->w.cell? (ad.add j)=some u)
section
variable {w w':yM} {B B' size n:Nat} {A:zA} {xs:zO}
theorem oZ.none_:oZ w B size A 0 []:=⟨by simp,fun h=>absurd h (by omega)⟩
theorem oZ.keep (h:oZ w B size A n xs) (hk:∀p:Addr,p.block<B->w'.cell? p=w.cell? p):oZ w' B size A n xs:=
 ⟨h.1,fun hn=>by
  obtain⟨ad,e,hb,hc⟩:=h.2 hn;exact⟨ad,e,hb,fun j u hu=>(hk _ (by rw[rD];exact hb)).trans (hc j u hu)⟩⟩
theorem oZ.more (h:oZ w B size A n xs) (hB:B<=B'):oZ w B' size A n xs:=
 ⟨h.1,fun hn=>by
  obtain⟨ad,e,hb,hc⟩:=h.2 hn;exact⟨ad,e,by omega,hc⟩⟩
theorem oZ.below (h:oZ w B size A n xs) (hb:Below B w w'):oZ w' B size A n xs:=h.keep fun _ hp=>hb.cell hp
end
end Go.Proofs.YtnigblndonocfaaGreatDoor
namespace Go.World
open Classical in
noncomputable def more (w y:World):World:=if Go.RowKit.Below w w y then y else w
end Go.World
namespace Go.Proofs.YtnigblndonocfaaGreatDoor
open Go.RowKit
theorem qB (w y:yM):Below w w (w.more y):=by
 unfold World.more;split
 ·assumption
 exact Below.refl _ _
theorem Below.uu {w w':yM} (h:Below w w w'):∃y,w'=w.more y:=⟨w',by unfold World.more;rw[if_pos h]⟩
theorem Lr (w y:yM):w.heap.size<=(w.more y).heap.size:=(qB w y).size
class Le (n:Nat) (w:yM):Prop where
 le:n<=w
class F0 (a b:Nat):Prop where
 ne:a≠b
section
variable {w:yM} {n b:Nat}
theorem iH (w:yM) (o:Obj):(w.alloc o).heap.size=w.heap.size+1:=by simp
theorem jc (w:yM) (a:Addr) (v:Value):(w.setCell a v).heap.size=w.heap.size:=by simp[World.setCell]
instance SG (w:yM):Le w w:=⟨Nat.le_refl _⟩
instance Sp [h:Le n w] (o:Obj):Le n (w.alloc o):=⟨by rw[iH];exact Nat.le_succ_of_le h.le⟩
instance Oo [h:Le n w] (o:Obj):Le (n+1) (w.alloc o):=⟨by rw[iH];exact Nat.succ_le_succ h.le⟩
instance SH [h:Le n w]:Le n w.drew:=⟨h.le⟩
instance RT [h:Le n w] (k:Nat):Le n (w.drewN k):=⟨h.le⟩
instance SK [h:Le n w] (y:yM):Le n (w.more y):=⟨Nat.le_trans h.le (Lr w y)⟩
instance SX [h:Le n w] (a:Addr) (v:Value):Le n (w.setCell a v):=⟨by rw[jc];exact h.le⟩
instance SE [h:Le (b+1) w]:F0 b w:=⟨by have:=h.le;omega⟩
instance R_ [h:Le (b+1) w]:F0 w b:=⟨by have:=h.le;omega⟩
instance P_ [h:Le (b+1) w] (k:Nat):F0 b (w+k):=⟨by have:=h.le;omega⟩
instance O9 [h:Le (b+1) w] (k:Nat):F0 (w+k) b:=⟨by have:=h.le;omega⟩
end
section
variable (w y:yM) (o:Obj) (b i k n:Nat) (ad:Addr) (v:Value)
theorem BK [h:Le (b+1) w]:(w.alloc o).cell? (b,i)=w.cell? (b,i):=World.cell?_alloc_lt w o _ h.le
theorem Ab [h:Le (b+1) w]:(w.alloc o).frozen? (b,i)=w.frozen? (b,i):=
 ((Below.refl _ _).alloc (Nat.le_refl w) o).frozen (p:=(b,i)) h.le
theorem K8 [h:Le (b+1) w]:(w.more y).cell? (b,i)=w.cell? (b,i):=(qB w y).cell (p:=(b,i)) h.le
theorem Hq [h:Le (b+1) w]:(w.more y).frozen? (b,i)=w.frozen? (b,i):=(qB w y).frozen (p:=(b,i)) h.le
theorem Dr:w.drew.cell? (ad.add k)=w.cell? (ad.add k):=rfl
theorem Cf:(w.drewN n).cell? (ad.add k)=w.cell? (ad.add k):=rfl
theorem CV (j:Nat) [h:F0 n b]:(w.setCell (b,i) v).cell? (n,j)=w.cell? (n,j):=
 World.cell?_setCell_other w _ _ v (fun e=>h.ne (congrArg Addr.block e).symm)
theorem xy (w:yM):w.drew.heap=w.heap:=by cases w;rfl
end
attribute [go_sem] BK Ab K8 Hq Dr Cf CV xy
class ik (w0 w:yM):Prop where
 below:Below w0 w0 w
class uD (w0:yM) (b:Nat):Prop where
 le:w0<=b
section
variable {w0 w:yM}
instance iq (w:yM):ik w w:=⟨Below.refl _ _⟩
instance Hk [h:ik w0 w] (o:Obj):ik w0 (w.alloc o):=⟨h.below.alloc h.below.size o⟩
instance Ra [h:ik w0 w]:ik w0 w.drew:=⟨h.below.drew⟩
instance P4 [h:ik w0 w] (n:Nat):ik w0 (w.drewN n):=⟨⟨h.below.os,h.below.tape,h.below.output,h.below.size,h.below.block⟩⟩
instance Cu [h:ik w0 w] (y:yM):ik w0 (w.more y):=⟨h.below.trans ((qB w y).mono h.below.size)⟩
instance Sk [h:ik w0 w]:uD w0 w:=⟨h.below.size⟩
instance SL {b:Nat} [h:uD w0 b] (k:Nat):uD w0 (b+k):=⟨Nat.le_trans h.le (Nat.le_add_right _ _)⟩
instance pQ {b:Nat} [h:ik w0 w] [k:uD w0 b] (o:Nat) (v:Value):ik w0 (w.setCell (b,o) v):=⟨h.below.setCell (p:=(b,o)) k.le v⟩
theorem ik.uu (w0 w:yM) [h:ik w0 w]:∃y,w=w0.more y:=Below.uu h.below
theorem ik.size (w0 w:yM) [h:ik w0 w]:w0.heap.size<=w:=h.below.size
end
theorem iE {P:Program} {id:Nat} {Q:Exit->Act->yM->Prop} {a:Act} {w:yM} {l:List Oper} (hm:P.follows .mixedOrders=true) (hB:Region.lexB .any l.toArray=true)
  (h:wpQuiet P l.toArray (fun w'=>∃y,w'=w.more y) (fun a'=>∀w',(∃y,w'=w.more y)->Q .normal a' w') l a):(Code.region id l.toArray true).wp P Q a w:=
 wp_region_quiet (C:=fun w'=>∃y,w'=w.more y) hm hB (ik.uu w w.drew) (by simpa using h)
theorem Calls.PX {P:Program} {f:FuncId} {args:Array Value} {w y:yM} {v:Value}
  (h:Calls P f args (w.more y) fun e w'=>e=.returned v/\∃z,w'=(w.more y).more z) :
  Calls P f args (w.more y) fun e w''=>e=.returned v/\∃z,w''=w.more z:=
 h.mono fun _ _ ⟨he,z,hb⟩=>⟨he,by rw[hb];exact ik.uu _ _⟩
theorem Calls.L' {P:Program} {f:FuncId} {args:Array Value} {w y:yM} {v:Value}
  (h:Calls P f args (w.more y) fun e w'=>e=.returned v/\w.more y=w') :
  Calls P f args (w.more y) fun e w''=>e=.returned v/\∃z,w''=w.more z:=
 h.mono fun _ _ ⟨he,hb⟩=>⟨he,y,hb.symm⟩
def bv (l:List Bool):zO:=l.map Value.bool
structure RB (w:yM) (A:zA) (c:Nat) (l:List Bool):Prop where
 reads:oZ w w 1 A l (bv l)
 le:l<=c
 cap:c<=9223372036854775807
 len:l.length<=140737488355328
theorem RB.below {w w':yM} {A c l} (h:RB w A c l) (hb:Below w w w'):RB w' A c l:=
 ⟨(h.reads.below hb).more hb.size,h.le,h.cap,h.len⟩
theorem RB.here {w0:yM} {A c l} (h:RB w0 A c l) (w:yM) [k:ik w0 w]:RB w A c l:=h.below k.below
structure RW (w:yM) (A:zA) (c:Nat) (B:zA) (d:Nat) (h l:List Bool):Prop where
 head:RB w A c h
 loop:RB w B d l
theorem RW.below {w w':yM} {A c B d h l} (x:RW w A c B d h l) (hb:Below w w w'):RW w' A c B d h l:=
 ⟨x.head.below hb,x.loop.below hb⟩
theorem RW.here {w0:yM} {A c B d h l} (x:RW w0 A c B d h l) (w:yM) [k:ik w0 w]:RW w A c B d h l:=x.below k.below
theorem RW.lens {w:yM} {A c B d h l} (x:RW w A c B d h l):h.length<=140737488355328/\l.length<=140737488355328:=⟨x.head.len,x.loop.len⟩
theorem oZ.so {w:yM} {size n:Nat} {A:zA} {xs:zO} {base:Nat} {e:TypeId} {c:Nat} (h:w.ownsRow base e size (.slice A n c) n xs):oZ w w size A n xs:=by
 refine⟨h.1,fun hn=>?_⟩;rcases h.2 with⟨h1,h2⟩ | ⟨g,cap,cur,hv,hbg,hh,hnc,hcap,hsz,htk⟩
 ·omega
 injection hv with hA
 subst hA;have hlt:g<w:=by
  rcases Nat.lt_or_ge g w with h' | h'
  ·exact h'
  rw[Array.getElem?_eq_none h']at hh;cases hh
 exact⟨_,rfl,hlt,h.cells (g:=g) rfl⟩
theorem ji {w:yM} {size n:Nat} {v:Value} {xs:zO} {base:Nat} {e:TypeId} (h:w.ownsRow base e size v n xs) :
  ∃A c,v=.slice A n c/\n<=c/\c<=9223372036854775807:=by
 rcases h.2 with⟨h1,h2⟩ | ⟨g,cap,cur,hv,hbg,hh,hnc,hcap,hsz,htk⟩
 ·subst h2;exact⟨none,0,h1,Nat.le_refl _,by omega⟩
 exact⟨_,_,hv,hnc,by unfold maxLen at hcap;exact hcap⟩
theorem RB.so {w:yM} {v:Value} {l:List Bool} {base:Nat} {e:TypeId} (h:w.ownsRow base e 1 v l (bv l)) (hl:l.length<=140737488355328) :
  ∃A c,v=.slice A l.length c/\RB w A c l:=by
 obtain⟨A,c,rfl,h1,h2⟩:=ji h;exact⟨A,c,rfl,oZ.so h,h1,h2,hl⟩
theorem Ky {k:IntKind} {a b:Int} (h:a=b):Ending.returned (.int k a)=.returned (.int k b):=by rw[h]
theorem iK {a b:Bool} (h:a=b):Ending.returned (.bool a)=.returned (.bool b):=by rw[h]
theorem GY {w0 wr w':yM} [h:ik w0 wr] {e:TypeId} {size n:Nat} {v:Value} {xs:zO} (hown:wr.ownsRow w0 e size v n xs) (hg:wr.grownBy w' v.ownBlock):ik w0 w':=
 ⟨h.below.grown hg h.below.size fun k hk=>(hown.lt k hk).1⟩
theorem mh {P:Program} {w0:yM} (wr:yM) [ik w0 wr] {ops:Array Oper} {rest:List Oper} {o:Oper} {a:Act} {Q:Exit->Act->yM->Prop} (hgd:o.guard=none) (s x:Operand) (t:TypeId)
  (ho:o.op=.call { callee:=.builtin .append,args:=#[s,x],argTypes:=#[t,t] })
  (e:TypeId) (z:Value) (bytes:Nat) (ht:P.underlying t=some (.slice e)) (hi:(P.info? e).map (fun i=>(i.zero,i.size,i.bytes))=some (some z,1,bytes)) (hzs:z.cells.size=1)
  (v:Value) (n:Nat) (xs:zO) (u:Value) (hs:a.eval s=v) (hown:wr.ownsRow w0 e 1 v n xs)
  (hx:a.eval x=.slice wr 1 1) (h1:u.oneCell'=true) (hn:(n+1)*bytes<=140737488355328) (hm:n<140737488355328)
  (h:∀v' w',w'.ownsRow w0.heap.size e 1 v' (n+1) (xs++[u])->ik w0 w'->wpList P ops Q rest (a.put o.dst v') w') :
  wpList P ops Q (o::rest) a (wr.alloc (.cells #[u] e)):=by
 obtain⟨i,hi1,hi2,hi3,hi4⟩:=info_parts hi;refine wpList_append_own _ hgd s x t ho w0 e i z 1 bytes ht hi1 hi2 hi3 hi4 hzs (by decide) v n xs hs (hown.alloc _) ⟨wr,0,none⟩ 1 1 [u] hx rfl ?_ ?_ (by unfold maxLen;omega) hn ?_ ?_
 ·intro j b hj
  match j,hj with
  |0,hj=>simp at hj;subst hj;simp[Addr.add]
 ·intro b hb;simp at hb;subst hb;exact h1
 ·exact Nat.le_trans (ik.size w0 wr) (by simp)
 intro v' w' h2 h3 _;exact h v' w' h2 (GY (hown.alloc _) h3)
abbrev jP:=@ik.uu
abbrev mR:=@Calls.PX
abbrev O5:=@Calls.L'
end Go.Proofs.YtnigblndonocfaaGreatDoor
