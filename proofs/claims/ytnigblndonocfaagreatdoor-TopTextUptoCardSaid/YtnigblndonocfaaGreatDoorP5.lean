/- A part of the proof. -/
import Derived.Test.YtnigblndonocfaaGreatDoorP4
import Derived.Deep.CutBlock
set_option linter.unusedVariables false
set_option linter.unusedSimpArgs false
namespace Go.Proofs.YtnigblndonocfaaGreatDoor
set_option maxRecDepth 100000
set_option maxHeartbeats 6400000
open Go.RowKit Go.BigFrame Go.Proofs.Tryz
structure pH {α:Type} (ok:yM->α->Prop):Prop where
 below:∀(W W':yM) (y:α),Below W W W'->ok W y->ok W' y
 sub:∀(W w:yM) (y:α),CU W w->ok W y->ok w y
def iD (S:Nat->Bool) (v:Value):Nat->Bool:=fun b=>S b||v.ownBlock==some b
structure kZ {α:Type} (n0:Nat) (T:TypeId) (sz:Nat) (cells:α->zO) (ok:yM->α->Prop) (S:Nat->Bool) (w:yM) (v:Value) (l:List α):Prop where
 own:w.ownsRow n0 T sz v l (l.flatMap cells)
 inn:∀y∈l,ok (kK (iD S v) w) y
section
variable {α:Type} {n0:Nat} {T:TypeId} {sz:Nat} {cells:α->zO} {ok:yM->α->Prop} {S:Nat->Bool} {w w':yM} {v:Value} {l:List α} {q:Nat}
theorem kZ.nil:kZ n0 T sz cells ok S w (.slice none 0 0) ([]:List α):=⟨FL ..,fun y hy=>by cases hy⟩
theorem kZ.iv (h:kZ n0 T sz cells ok S w v l) (hm:pH ok) (hq:q<n0) (hS:S q=true) (a:ik (iz q w) (iz q w')):kZ n0 T sz cells ok S w' v l:=
 ⟨tM (nF (sG h.own hq) a) hq,fun y hy=>hm.below _ _ _ (j_ (q:=q) (by unfold iD;rw[hS];rfl) a).below (h.inn y hy)⟩
theorem kZ.after (h:kZ n0 T sz cells ok S w v l) (hm:pH ok) (a:ik w w'):kZ n0 T sz cells ok S w' v l:=
 ⟨nF h.own a,fun y hy=>hm.below _ _ _ (oS a).below (h.inn y hy)⟩
theorem kZ.set (h:kZ n0 T sz cells ok S w v l) (hm:pH ok) {r:Nat} (hr:S r=true) (hv:v.ownBlock≠some r) (i:Nat) (u:Value):kZ n0 T sz cells ok S (w.setCell (r,i) u) v l:=by
 refine⟨?_,fun y j=>hm.below _ _ _ (kJ (by unfold iD;rw[hr];rfl) _ _ _).below (h.inn y j)⟩;refine⟨h.own.1,?_⟩;rcases h.own.2 with o | ⟨g,cap,cur,e,hb,hgg,rest⟩
 ·exact .inl o
 refine .inr ⟨g,cap,cur,e,hb,?_,rest⟩;rw[Below.heap_setCell w _ u g (by show g≠r;rintro rfl;exact hv (by rw[e];rfl))];exact hgg
theorem kZ.add (h:kZ n0 T sz cells ok S w v l) (hm:pH ok) {m:Nat} {y:α} (hy:ok (old m w) y) (hS:∀b,S b=true->b<m) (hv:∀b,v.ownBlock=some b->b<m) {v':Value}
  (own:w'.ownsRow n0 T sz v' (l+1) (l.flatMap cells++cells y)) (g:w.grownBy w' v.ownBlock) (hb:v'.ownBlock=v.ownBlock\/v'.ownBlock=some w):kZ n0 T sz cells ok S w' v' (l++[y]):=by
 have J:∀z∈l++[y],ok (kK (iD S v) w) z:=fun z j=>by
  rcases ue.1 j with j | j
  ·exact h.inn z j
  simp only[la]at j;subst j;refine hm.sub _ _ _ (nO w fun b hb=>?_) hy;unfold iD at hb;simp only[uG,beq_iff_eq]at hb;rcases hb with hb | hb
  ·exact hS b hb
  exact hv b hb
 refine⟨by rw[mo,Fa];simpa using own,fun z j=>?_⟩;have j:=J z j;rcases hb with hb | hb
 ·refine hm.below _ _ _ ?_ j
  have e:iD S v'=iD S v:=by unfold iD;rw[hb]
  rw[e];exact (xo g fun b hb=>by unfold iD;rw[hb];simp).below
 have a:ik (kK (iD S v) w) (kK (fun b=>iD S v b||iD S v' b) w'):=by
  refine vx g.os g.tape g.output g.size fun b I=>⟨?_,fun e=>g.block b I fun R=>?_⟩
  ·have o:(v'.ownBlock==some b)=false:=by
    rw[hb];simp;omega
   unfold iD;rw[o];cases S b<;>simp
  unfold iD at e;rw[<- R]at e;simp at e
 exact hm.sub _ _ _ (rp (fun b hb=>by rw[hb,Bool.or_true]) w') (hm.below _ _ _ a.below j)
theorem Bw {n:Nat} {xs:zO} (h:w.ownsRow n0 T sz v n xs):(old n0 w).ownsRow n0 T sz v n xs:=by
 refine⟨h.1,?_⟩;rcases h.2 with j | ⟨g,cap,cur,e,hb,hgg,rest⟩
 ·exact .inl j
 refine .inr ⟨g,cap,cur,e,hb,?_,rest⟩;rwa [lV w hb]
theorem kZ.St (h:kZ n0 T sz cells ok S w v l) (hm:pH ok) (hS:∀b,b<n0->S b=true):(∀y∈l,ok (old n0 w) y):=
 fun y hy=>hm.sub _ _ _ (sZ w fun b hb=>by unfold iD;rw[hS b hb];rfl) (h.inn y hy)
theorem kZ.row {P:yM->Nat->Nat->α->Prop} (h:kZ n0 T sz cells ok S w v l) (hm:pH ok) (hS:∀b,b<n0->S b=true) (hc:∀y,(cells y).length=sz) (hl:l.length<=140737488355328)
  (hP:∀W b o y,ok W y->(∀j u,(cells y)[j]?=some u->W.cell? ⟨b,o+j,none⟩=some u)->P W b o y):∃A c,v=.slice A l.length c/\ir sz P (old n0 w) ⟨A,c,l⟩:=
 KK hc (Bw h.own) hl fun b o y _ hy hj=>hP _ b o y (h.St hm hS y hy) hj
end
theorem ld:pH RX:=⟨fun W W' y hb h=>h.below hb,fun W w y k h=>h.sub k⟩
theorem kZ.rx {n0:Nat} {S:Nat->Bool} {w:yM} {v:Value} {l:List Tx} (h:kZ n0 73 6 jj RX S w v l) (hS:∀b,b<n0->S b=true) (hl:l.length<=70000) (k o t x:Int) (s:yB) (hs:s.size<=65536):∃A c,v=.slice A l.length c/\RX (old n0 w) (.mk k o t x s A c l):=by
 obtain⟨A,c,rfl,h1,h2⟩:=ji h.own;have I:=h.St ld hS;refine⟨A,c,rfl,?_⟩;rw[RX];refine⟨iu,h1,h2,iu,?_⟩;rcases (Bw h.own).2 with⟨hv,h0⟩ | ⟨g,cap,cur,hv,hbg,hh,hnc,hcap,hsz,htk⟩
 ·exact .inl (B_ h0)
 injection hv with hA
 subst hA;have J:g<(old n0 w).heap.size:=by
  rcases qa g (old n0 w).heap.size with R | R
  ·exact R
  rw[FF R]at hh;cases hh
 refine .inr ⟨g,0,rfl,J,xX.De (fun j u U=>?_) I⟩;have:=(Bw h.own).cells (g:=g) rfl j u U;rwa [yb]at this
section
variable {B:yM} {q:Nat} {A:zA} {c:Nat} {L:List Tk} {en:Int} {eA:zA} {ec:Nat} {el:List iW} {w w0 w':yM} {i n0 sz n:Nat} {T:TypeId} {v:Value} {xs:zO}
theorem kF (a:ik (iz q w0) (iz q w)) (own:w.ownsRow n0 T sz v n xs) (g:w.grownBy w' v.ownBlock) (hq:q<n0) (h0:w0<=n0):ik (iz q w0) (iz q w'):=
 vm (h:=a) (sG own hq) (by rw[iZ];exact h0) (z' g)
theorem Rd.grown (h:Rd B q A c L en eA ec el w i) (own:w.ownsRow n0 T sz v n xs) (g:w.grownBy w' v.ownBlock) (hq:q<n0) (hB:B<=n0):Rd B q A c L en eA ec el w' i:=
 ⟨oY h.blk g (fun e=>by have:=(own.lt q e.symm).1;omega),vm (h:=h.aft) (sG own hq) hB (z' g),h.le,h.tk,h.ens,h.few,h.num⟩
theorem Rd.set (h:Rd B q A c L en eA ec el w i) {r:Nat} (hr:r≠q) (hB:B<=r) (j:Nat) (u:Value):Rd B q A c L en eA ec el (w.setCell (r,j) u) i:=
 ⟨h.blk.qU (p:=(r,j)) (ls hr) _,iJ (k:=⟨hB⟩) (h:=h.aft) _ _,h.le,h.tk,h.ens,h.few,h.num⟩
end
section
open Go.Proofs.Tryz
section
variable {B:yM} {q:Nat} {A:zA} {c:Nat} {L:List Tk} {en:Int} {eA:zA} {ec:Nat} {el:List iW} {w w0 w1:yM} {i:Nat}
theorem ev_put {a:Act} {d k:Nat} {v:Value} (h:d<a.tmps.size):(a.put (some d) v).eval (.tmp k)=if k=d then v else a.eval (.tmp k):=by
 unfold Act.eval Act.put;simp only[Array.getD_eq_getD_getElem?,Array.getElem?_setIfInBounds];by_cases e:k=d
 ·subst e;simp[h]
 simp[e,Ne.symm e]
theorem ev_p {a:Act} {d:Nat} {v:Value} (h:d<a.tmps.size):(a.put (some d) v).eval (.tmp d)=v:=(ev_put h).trans (iG rfl)
theorem ev_n {a:Act} {d k:Nat} {u v:Value} (h:d<a.tmps.size) (e:k≠d) (hu:a.eval (.tmp k)=u):(a.put (some d) v).eval (.tmp k)=u:=(ev_put h).trans ((iV e).trans hu)
theorem put_size {a:Act} {d:Option Nat} {v:Value}:(a.put d v).tmps.size=a.tmps.size:=by cases d<;>simp[Act.put]
section
variable {P:Program} {o:Oper} {a:Act} {U U':yM} {T:TypeId} {x y:Operand} {n:Nat} {v:Value}
theorem ex_fa {u:Value} (hu:a.eval x=u) (h:(Instr.fieldAt T u n).run P U=.ok v U') (ho:o.op=.fieldAddr T x n:=by rfl):(execOp a.eval o).run P U=.ok (.value v) U':=by subst hu;unfold execOp;simp only[ho,Sem.run_bind,h];rfl
theorem ex_ld {u:Value} (hu:a.eval x=u) (h:(Instr.loadAt T u).run P U=.ok v U') (ho:o.op=.load T x:=by rfl):(execOp a.eval o).run P U=.ok (.value v) U':=by subst hu;unfold execOp;simp only[ho,Sem.run_bind,h];rfl
theorem ex_bs {u:Value} (hu:a.eval x=u) (h:(Instr.buildSlice T n #[(0,u)]).run P U=.ok v U') (ho:o.op=.buildSlice T n #[(0,x)]:=by rfl):(execOp a.eval o).run P U=.ok (.value v) U':=by subst hu;unfold execOp;simp only[ho,Sem.run_bind,List.map_toArray,List.map_cons,List.map_nil,h];rfl
theorem ex_st {u s:Value} (hu:a.eval x=u) (hs:a.eval y=s) (h:(Instr.storeAt T u s).run P U=.ok () U') (ho:o.op=.store T x y:=by rfl):(execOp a.eval o).run P U=.ok .skip U':=by subst hu hs;unfold execOp;simp only[ho,Sem.run_bind,h];rfl
theorem ex_mv (ho:o.op=.move x:=by rfl):(execOp a.eval o).run P U=.ok (.value (a.eval x)) U:=by unfold execOp;simp only[ho];rfl
theorem ex_ca {f:FuncId} {t:TypeId} (hc:∀args U,(callFunc f args).run P U=.ok (.enter f args) U) (ho:o.op=.call { callee:=.value (.func f),args:=#[x],argTypes:=#[t] }:=by rfl):(execOp a.eval o).run P U=.ok (.enter f #[a.eval x]) U:=by
 unfold execOp;simp only[ho,resolve,Act.eval,Deferred.ofValue,invoke];go_simp
end
def Kna (t e:TypeId) (sz:Nat):Prop:=∃i z,prog.underlying t=some (.slice e)/\prog.info? e=some i/\i.zero=some z/\i.size=sz/\z.cells.size=sz/\0<sz/\i.bytes<=256
theorem kn_of {t e:TypeId} {z:Value} {size bytes:Nat} (h:(prog.info? e).map (fun i=>(i.zero,i.size,i.bytes))=some (some z,size,bytes)) (ht:prog.underlying t=some (.slice e)) (h1:z.cells.size=size) (h2:0<size) (h3:bytes<=256):Kna t e size:=by
 obtain⟨i,hi,hz,hs,hb⟩:=info_parts h;exact⟨i,z,ht,hi,hz,hs,h1,h2,by omega⟩
abbrev o8 (d x fld f:Nat) (t0 t1 t2 t3 t4 t5 t6 t7 T TB Tr:TypeId) (p0 p1 p2 p3 p4 p5 p6 p7:String):Array Oper:=#[{ dst:=some d,op:=.fieldAddr TB (.tmp x) fld,type:=t0,pos:=p0,after:=#[],guard:=none },{ dst:=some (d+1),op:=.load T (.tmp d),type:=t1,pos:=p1,after:=#[{ on:=0,ground:=.data }],guard:=none },{ dst:=some (d+2),op:=.move (.tmp 0),type:=t2,pos:=p2,after:=#[],guard:=none },{ dst:=some (d+3),op:=.call { callee:=.value (.func f),args:=#[.tmp (d+2)],argTypes:=#[Tr] },type:=t3,pos:=p3,after:=#[{ on:=2,ground:=.data }],guard:=none },{ dst:=some (d+4),op:=.buildSlice T 1 #[(0,.tmp (d+3))],type:=t4,pos:=p4,after:=#[{ on:=3,ground:=.data }],guard:=none },{ dst:=some (d+5),op:=.call { callee:=.builtin .append,args:=#[.tmp (d+1),.tmp (d+4)],argTypes:=#[T,T] },type:=t5,pos:=p5,after:=#[{ on:=1,ground:=.data },{ on:=4,ground:=.data },{ on:=3,ground:=.chain }],guard:=none },{ dst:=some (d+6),op:=.fieldAddr TB (.tmp x) fld,type:=t6,pos:=p6,after:=#[{ on:=0,ground:=.phase },{ on:=1,ground:=.phase },{ on:=2,ground:=.phase },{ on:=3,ground:=.phase },{ on:=4,ground:=.phase },{ on:=5,ground:=.phase }],guard:=none },{ dst:=none,op:=.store T (.tmp (d+6)) (.tmp (d+5)),type:=t7,pos:=p7,after:=#[{ on:=6,ground:=.data },{ on:=5,ground:=.data },{ on:=5,ground:=.chain },{ on:=0,ground:=.phase },{ on:=1,ground:=.phase },{ on:=2,ground:=.phase },{ on:=3,ground:=.phase },{ on:=4,ground:=.phase },{ on:=5,ground:=.phase }],guard:=none }]
section
variable {B:yM} {q:Nat} {A:zA} {c:Nat} {L:List Tk} {en:Int} {eA:zA} {ec:Nat} {el:List iW} {w w0:yM} {i i0:Nat} {α β γ:Type}
 {id d x fld off f ra N sz:Nat} {t0 t1 t2 t3 t4 t5 t6 t7 T Te TB Tr:TypeId} {p0 p1 p2 p3 p4 p5 p6 p7:String} {a:Act} {Q:Exit->Act->yM->Prop}
 {Y:Option (β×List Tk)} {V:β->yM->Value->Prop} {G:β×List Tk->Option γ} {X:Option γ}
 {cells:α->zO} {ok:yM->α->Prop} {S:Nat->Bool} {v:Value} {l:List α} {cs:Array Value} {er:α->β}
theorem app8 (HC:Calls prog f #[.pointer q] w.drew (pk B q A c L en eA ec el w.drew i Y V)) (HX:Hid (X=Y.bind G)) (a0:ik (iz q w0) (iz q w)) (le:Hid (i0<=i))
  (RB:iP w ra TB cs) (off:Nat) (hj:cs[off]?=some v) (OL:kZ N Te sz cells ok S w v l) (kn:Kna T Te sz) (hm:pH ok) (hS:∀b,S b=decide (b<N)) (hl:l.length<=70000) (hN0:N<=w) (hq:q<N) (hr:ra<N) (hrq:ra≠q) (hB:B<=ra) (h0:w0<=ra)
  (hc1:∀(y:α) u,u∈cells y->u.oneCell'=true) (hc2:∀y,(cells y).length=sz)
  (HV:∀x r U v9,Y=some (x,r)->V x U v9->∃y,er y=x/\ok (old w U) y/\∀U':yM,(Instr.buildSlice T 1 #[(0,v9)]).run prog U'=.ok (.slice U' 1 1) (U'.alloc (.cells (cells y).toArray Te)))
  (hs:∀(W:yM) (y:α) (i':Nat) (v2:Value) (v9 v5:Value),Hid (X=G (er y,L.drop i'))->Hid (i0<=i')->i<=i'->Hid (Rd B q A c L en eA ec el W i')->ik (iz q w0) (iz q W)->N<=W->Hid (iP W ra TB (cs.setIfInBounds off v2))->Hid (kZ N Te sz cells ok S W v2 (l++[y]))->v2.ownBlock≠some ra ->
   Q .normal (((((((a.put (some d) (.pointer (ra,off))).put (some (d+1)) v).put (some (d+2)) (.pointer q)).put (some (d+3)) v9).put (some (d+4)) v5).put (some (d+5)) v2).put (some (d+6)) (.pointer (ra,off))) W)
  (hn:∀a' w2 z er,X=none->ik (iz q w0) (iz q w2)->er≠0->a'.defers=a.defers->Q (.panic [{ v:=.iface 97 (.agg #[.int .i64 z,.int .i64 er]),recovered:=false }]) a' w2:=by exact fun _ _ z er HX aZ he hd=>⟨hd,pk.none HX (ij (im aw0) aZ) (jz z er he)⟩)
  (hx:a.eval (.tmp x)=.pointer ra:=by rfl) (ht:a.eval (.tmp 0)=.pointer q:=by rfl) (hd:d+6<a.tmps.size:=by simp) (hx0:x<d:=by decide) (hd0:0<d:=by decide)
  (hfa:∀U:yM,(Instr.fieldAt TB (.pointer ra) fld).run prog U=.ok (.pointer (ra,off)) U:=by intro U;go_simp)
  (hld:∀U:yM,U.cell? (ra,off)=some v->(Instr.loadAt T (.pointer (ra,off))).run prog U=.ok v U:=by intro U h;go_simp)
  (hcf:∀args (U:yM),(callFunc f args).run prog U=.ok (.enter f args) U:=by intro args U;go_simp)
  (hst:∀(U:yM) (A:zA) (n c:Nat),Le (ra+1) U->U.cell? (ra,off)=some v->U.frozen? (ra,off)=false->(Instr.storeAt T (.pointer (ra,off)) (.slice A n c)).run prog U=.ok () (U.setCell (ra,off) (.slice A n c)):=by intro U A n c h1 h2 h3;go_simp)
  (hQ:∀c a d v w,Q (.panic c) (a.put (some d) v) w->Q (.panic c) a w:=by exact fun _ _ _ _ _ h=>h)
  (k0:Region.noSelect (o8 d x fld f t0 t1 t2 t3 t4 t5 t6 t7 T TB Tr p0 p1 p2 p3 p4 p5 p6 p7)=true/\Region.free .any (o8 d x fld f t0 t1 t2 t3 t4 t5 t6 t7 T TB Tr p0 p1 p2 p3 p4 p5 p6 p7) (Array.replicate 8 false) 0=true/\Region.free .any (o8 d x fld f t0 t1 t2 t3 t4 t5 t6 t7 T TB Tr p0 p1 p2 p3 p4 p5 p6 p7) #[true,false,false,false,false,false,false,false] 1=true/\Region.free .any (o8 d x fld f t0 t1 t2 t3 t4 t5 t6 t7 T TB Tr p0 p1 p2 p3 p4 p5 p6 p7) #[true,true,false,false,false,false,false,false] 2=true:=by exact⟨by kernel_rfl,by kernel_rfl,by kernel_rfl,by kernel_rfl⟩) :
  (Code.region id (o8 d x fld f t0 t1 t2 t3 t4 t5 t6 t7 T TB Tr p0 p1 p2 p3 p4 p5 p6 p7) true).wp prog Q a w:=by
 obtain⟨kn0,kn1,kn2,kn3⟩:=k0;have HK:∀U,ik (iz q w) (iz q U)->U.cell? (ra,off)=some v:=fun U hU=>((kq RB hrq hU).cell off).trans hj
 refine jm (fun U:yM=>U.cell? (ra,off)=some v) [5,6,7] kp ?_;have hSw:=HK w.drew zc;refine nZ 0 [1,5,6,7] (.pointer (some (ra,off))) rfl kn0 rfl kp rfl kn1 kp (fun _ _ _ h=>hQ _ _ _ _ _ h) (Or.inl ⟨rfl,fun U hU=>ex_fa hx (hfa U)⟩) hSw ?_;show p_ _ _ _ _ _ _ _ _ (a.put (some d) _) _
 obtain⟨b1,e1⟩:=jt (a.put (some d) (.pointer (ra,off)));have z1:b1.tmps.size=a.tmps.size:=by rw[<- e1,put_size]
 refine nZ 1 [5,6,7] v rfl kn0 rfl kp rfl kn2 kp (fun _ _ _ h=>hQ _ _ _ _ _ h) (Or.inl ⟨rfl,fun U hU=>ex_ld (ev_p iu) (hld U hU)⟩) hSw ?_;show p_ _ _ _ _ _ _ _ _ ((a.put (some d) _).put (some (d+1)) _) _
 rw[e1];obtain⟨b2,e2⟩:=jt (b1.put (some (d+1)) v);have z2:b2.tmps.size=a.tmps.size:=by rw[<- e2,put_size,z1]
 rw[e2];refine nZ 2 [3,4,5,6,7] (.pointer (some q)) rfl kn0 rfl kp rfl kn3 kp (fun _ _ _ h=>hQ _ _ _ _ _ h) (Or.inl ⟨rfl,fun U hU=>(ex_mv (x:=.tmp 0)).trans (by rw[<- e2,<- e1];rw[ev_n (by rw[put_size];omega) iu (ev_n iu iu ht)])⟩) hSw ?_;show p_ _ _ _ _ _ _ _ _ (b2.put (some (d+2)) _) _
 obtain⟨b3,e3⟩:=jt (b2.put (some (d+2)) (.pointer q));have z3:b3.tmps.size=a.tmps.size:=by rw[<- e3,put_size,z2]
 rw[e3];refine IM (i:=3) kp rfl rfl ?_;unfold Oper.wp;rw[ex_ca (x:=.tmp (d+2)) hcf,show b3.eval (.tmp (d+2))=.pointer q from by rw[<- e3];exact ev_p iu];refine HC.mono ?_;rintro e w9 ⟨aZ,hY⟩;have aM:ik (iz q w) (iz q w9):=ij (im zc) aZ;cases Y with
 |none=>
  obtain⟨z,er,rfl,he⟩:=hY;exact hn _ _ _ _ HX.out (ij a0 aM) he (by rw[<- e3,<- e2,<- e1];rfl)
 |some yy=>
 obtain⟨x9,r9⟩:=yy;obtain⟨v9,i9,rfl,hv,R9,rfl,hi9⟩:=hY;obtain⟨y,rfl,hy,hbs⟩:=HV _ _ _ _ rfl hv;have OL9:=OL.iv hm hq (by rw[hS];simp[hq]) aM;have RB9:=kq RB hrq aM;refine⟨fun _=>HK _ aM,?_⟩;show p_ _ _ _ _ _ _ _ _ (b3.put (some (d+3)) _) _
 obtain⟨b4,e4⟩:=jt (b3.put (some (d+3)) v9);have z4:b4.tmps.size=a.tmps.size:=by rw[<- e4,put_size,z3]
 rw[e4];refine IM (i:=4) kp rfl rfl ?_;unfold Oper.wp;rw[ex_bs (x:=.tmp (d+3)) (T:=T) (n:=1) (by rw[<- e4];exact ev_p iu) (hbs w9)];have a10:ik w9 (w9.alloc (.cells (cells y).toArray Te)):=zc;have OL10:=OL9.after hm a10;have aM10:=ij aM (im (q:=q) a10);have RB10:iP (w9.alloc (.cells (cells y).toArray Te)) ra TB cs:=kq RB9 hrq (im a10);refine⟨fun _=>HK _ aM10,?_⟩;show p_ _ _ _ _ _ _ _ _ (b4.put (some (d+4)) _) _
 obtain⟨v5,e5'⟩:=jt (Value.slice w9.heap.size 1 1);rw[e5'];obtain⟨b5,e5⟩:=jt (b4.put (some (d+4)) v5);have z5:b5.tmps.size=a.tmps.size:=by rw[<- e5,put_size,z4]
 rw[e5];refine IM (i:=5) kp rfl rfl ?_;obtain⟨io,z,k1,k2,k3,k4,k5,k6,k7⟩:=kn;have hN:N<=w9:=by have h1:=lZ aM;omega
 refine jZ (w9.alloc (.cells (cells y).toArray Te)) (.tmp (d+1)) (.tmp (d+4)) T rfl N Te io z sz io.bytes k1 k2 k3 k4 rfl k5 k6 v l (l.flatMap cells) ?_ OL10.own _ _ 1 1 (cells y) ?_ (ki (w:=w9) rfl _ Te _ (by simp) 1 sz (by rw[hc2,Nat.one_mul])) (hc1 y) (by unfold maxLen;omega) ?_ (by rw[iH];omega) ?_
 ·rw[<- e5,<- e4,<- e3,<- e2]
  exact ev_n (by simp only[put_size];omega) iu (ev_n (by simp only[put_size];omega) iu (ev_n (by simp only[put_size];omega) iu (ev_p iu)))
 ·rw[<- e5,ev_p iu,<- e5']
 ·have:(l.length+1)*io.bytes<=70001*256:=Nat.mul_le_mul iu k7
  omega
 intro v2 w11 own g hb;have hsz:w9.heap.size<(w9.alloc (.cells (cells y).toArray Te)).heap.size:=by rw[iH];omega
 have OL11:=OL10.add hm (hm.below _ _ _ (jK a10).below hy) (fun b h=>by rw[hS]at h;have:=of_decide_eq_true h;omega) (fun b h=>(OL.own.lt b h).2) own g hb;have R11:=(R9.after a10).grown OL10.own g hq iu;have m11:=kF (ij a0 aM10) OL10.own g hq iu;have B11:=iP.grown RB10 g (fun e=>by have:=(OL10.own.lt ra e.symm).1;omega);have hv2:v2.ownBlock≠some ra:=fun e=>by have:=(OL11.own.lt ra e).1;omega
 refine⟨fun h=>absurd h iI,?_⟩;show p_ _ _ _ _ _ _ _ _ (b5.put (some (d+5)) _) _
 obtain⟨b6,e6⟩:=jt (b5.put (some (d+5)) v2);have z6:b6.tmps.size=a.tmps.size:=by rw[<- e6,put_size,z5]
 rw[e6];refine IM (i:=6) kp rfl rfl ?_;unfold Oper.wp;rw[ex_fa (x:=.tmp x) (T:=TB) (n:=fld) (by rw[<- e6,<- e5,<- e4,<- e3,<- e2,<- e1];exact ev_n (by simp only[put_size];omega) iu (ev_n (by simp only[put_size];omega) iu (ev_n (by simp only[put_size];omega) iu (ev_n (by simp only[put_size];omega) iu (ev_n (by simp only[put_size];omega) iu (ev_n iu iu hx)))))) (hfa _)];refine⟨fun h=>absurd h iI,?_⟩;show p_ _ _ _ _ _ _ _ _ (b6.put (some (d+6)) _) _
 refine IM (i:=7) kp rfl rfl ?_;unfold Oper.wp;rw[ex_st (x:=.tmp (d+6)) (y:=.tmp (d+5)) (T:=T) (U':=w11.setCell (ra,off) v2) (ev_p iu) (ev_n iu iu (show b6.eval (.tmp (d+5))=v2 from by rw[<- e6];exact ev_p iu)) (by obtain⟨A',c',e,_,_⟩:=ji own;rw[e];exact hst _ _ _ _ B11.is_le ((B11.cell off).trans hj) (B11.frozen off))];refine⟨fun h=>absurd h iI,?_⟩;refine iT kp ?_ _;have hW:=hs (w11.setCell (ra,off) v2) y i9 v2 v9 v5 HX (jW le.out hi9) hi9 (R11.set hrq hB _ _) (iJ (k:=⟨by rw[iZ];exact h0⟩) (h:=m11) _ _) (by rw[jc];have:=g.size;omega) (B11.jx off v2) (OL11.set hm (by rw[hS];simp[hr]) hv2 off v2) hv2;rw[e1,e2,e3,e4,e5,e6]at hW;exact hW
end
theorem knX:Kna 63 73 6:=kn_of qs underlying63 rfl iI iI
theorem hcX (y:Tx) (u:Value) (h:u∈jj y):u.oneCell'=true:=by
 simp only[jj,List.mem_cons,List.not_mem_nil,or_false]at h;rcases h with rfl | rfl | rfl | rfl | rfl | rfl<;>rfl
theorem hvX {Y:Option (Ex×List Tk)} (n:Nat) (x:Ex) (r:List Tk) (U:yM) (v:Value) (_:Y=some (x,r)) (h:VX n x U v):∃y:Tx,y.er=x/\RX (old n U) y/\∀U':yM,(Instr.buildSlice 63 1 #[(0,v)]).run prog U'=.ok (.slice U' 1 1) (U'.alloc (.cells (jj y).toArray 73)):=by
 obtain⟨⟨k,o,t,z,s,A,c,xs⟩,h1,rfl,h2⟩:=h;exact⟨_,h1,h2,fun U'=>by unfold Tx.val jj;simp only[Tx.kind,Tx.op,Tx.ty,Tx.va,Tx.name,Tx.ad,Tx.args,Tx.cap];go_simp⟩
theorem iP.at1 {w:yM} {g:Nat} {t:TypeId} {cs:Array Value} (h:iP w g t cs) (j:Nat) (hj:j<cs.size:=by simp):w.cell? (g,j)=some cs[j]/\w.frozen? (g,j)=false/\Le (g+1) w:=⟨by rw[h.cell,Array.getElem?_eq_getElem hj],h.frozen j,h.is_le⟩
section
variable {B:yM} {q:Nat} {A:zA} {c:Nat} {L:List Tk} {en:Int} {eA:zA} {ec:Nat} {el:List iW} {w w0 w':yM} {i i0:Nat}
structure MCx (ra n0:Nat) (s:yB) (w:yM) (n g:Nat) (t:Int) (l:List Ex) (ys:List Tx):Prop where
 yn:ys=n
 bo:t=1->n=2
 co:Cv t l ys
 rb:iP w ra 73 #[.int .i64 9,JX,t,JX,s,.slice g n n]
 rg:pR w g ys
 da:∀y∈ys,RX (kK (fun b=>decide (b<n0)||b==ra||b==g) w) y
 ag:ra<g
 ty:0<=t/\t<=2000
 nn:n<=16
theorem MCx.to {ra n0 n g:Nat} {s:yB} {t:Int} {l:List Ex} {ys:List Tx} (h:MCx ra n0 s w n g t l ys) (hq:q<n0) (hr:n0<=ra) (a:ik (iz q w) (iz q w')):MCx ra n0 s w' n g t l ys:=
 ⟨h.yn,h.bo,h.co,kq h.rb iu a,kq h.rg (by have:=h.ag;omega) a,fun y hy=>(h.da y hy).below (j_ (q:=q) (by simp[hq]) a).below,h.ag,h.ty,h.nn⟩
theorem wnS {α:Type} {X U:Option α} {W0:yM} {t v:Int} {kn:Bool} {Q:Ending->yM->Prop} (R:Rd B q A c L en eA ec el w i) (HX:Hid (X=if lk el t v kn (L.drop i)=true then U else none)) (a:ik W0 (iz q w))
  (hs:∀w2,Hid (Rd B q A c L en eA ec el w2 i)->Hid (X=U)->Hid (lk el t v kn (L.drop i)=true)->ik (iz q w) (iz q w2)->ik W0 (iz q w2)->Q (.returned (.tuple #[])) w2)
  (hn:∀e w2,X=none->ik W0 (iz q w2)->Fl e->Q e w2:=by
   intro _ w2 HX aZ hf;obtain⟨a,er,rfl,he⟩:=hf;unfold oD;go_wp2_with fail;exact⟨rfl,pk.none HX (ij (im aw0) aZ) (jz a er he)⟩):Calls prog 188 #[.pointer q,t,v,kn] w Q:=by
 refine (vt R t v kn).mono fun e w2 h=>?_
 obtain⟨aN,⟨h1,rfl⟩ | ⟨h1,h2⟩⟩:=h
 ·exact hs w2 (R.after aN) (HX.out.trans (iG h1)) h1 (im aN) (ij a (im aN))
 exact hn e w2 (HX.out.trans (iV (by rw[h1];exact Bool.false_ne_true))) (ij a (im aN)) h2
theorem IT {k:Nat} (htag:∀u∈el,u.tags.l.length<=16) (hel:el.length<=1000) (C:∀j≤k,CX B q A c L en eA ec el j) (h:Rd B q A c L en eA ec el w i) (hk:20*(L-i)+1<=k+1):Calls prog 178 #[.pointer q] w (pk B q A c L en eA ec el w i (tI el (k+1) (L.drop i)) (VX w)):=by
 obtain⟨X,hX⟩:=jt (tI el (k+1) (L.drop i));rw[hX];obtain⟨i0,hi0⟩:=jt i;rw[hi0]at hX h hk⊢;have HX:=iy hX.symm;have le0:Hid (i0<=i0):=js _;have hq:=h.blk.lt;have hbase:=h.base;obtain⟨r,hr⟩:=jt w.heap.size;have hrq:r≠q:=iu
 obtain⟨w0,hw0,aw0,B0,R0,s0⟩:=Ls h hr hrq #[JX,JX,JX,JX,.string ⟨#[]⟩,()] 73;have HB:Hid (qP (iz q w0) r oE):=B0;have a0:=iq (iz q w0);clear h B0 hX hi0;go_in;go_wp2_with fail;try rw[hr]
 try rw[hw0]
 go_wp2_with fail;refine BC (qb R0.out) HX a0 le0 ?_;clear HX;rintro w1 s v1 i1 hY1 ⟨rfl,hs1⟩ R1 HX le1 li1 b1 a1;have hS:=iy hs1;obtain⟨ra,hra⟩:=jt w1.heap.size;have hz:=lZ a1;have haq:ra≠q:=iu
 have hn0:w0<=ra:=iu
 have hB0:B<=ra:=iu
 have hq0:q<w0:=iu
 have hrw:r<w0:=iu
 have lt1:Hid (i0<i1):=by have h1:=mm hY1;rw[List.length_drop,List.length_drop]at h1;have:=R1.out.le;(show _<_;omega)
 obtain⟨w2,hw2,BA,R2,a2⟩:∃v,w1.alloc (.cells #[.int .i64 9,JX,JX,JX,s,()] 73)=v/\Hid (iP v ra 73 #[.int .i64 9,JX,JX,JX,s,()])/\Hid (Rd B q A c L en eA ec el v i1)/\ik (iz q w0) (iz q v):=⟨_,rfl,by rw[<- hra];exact iP.new ..,R1.out.after zc,ij a1 (im zc)⟩;have hw2':=iy hw2;clear hw2 R1 hs1 hz a1 b1 hY1;go_wp2_with fail;try rw[hra]
 try rw[hw2'.out]
 clear hw2' hra s0;go_loopw [4,5] (fun v4 v5 wr=>∃i':Nat,Hid (i0<i')/\Hid (Rd B q A c L en eA ec el wr i')/\ik (iz q w0) (iz q wr)/\((v4=.int .i64 1/\v5=.int .i64 0/\Hid (X=Q_ el k s (L.drop i'))/\Hid (iP wr ra 73 #[.int .i64 9,JX,JX,JX,s,()]))\/∃(m n g:Nat) (t x:Int) (l:List Ex) (ys:List Tx),v4=.int .i64 (n:Nat)/\v5=.int .i64 x/\x=l.length/\l.length<=n/\1<=l.length/\m<=k/\20*(L-i')+10<=m/\Hid (X=we el m s t n l (L.drop i'))/\Hid (MCx ra w0 s wr n g t l ys))) (fun _ _ wr=>L.length-lO wr q 2)
 ·exact⟨i1,lt1,R2,a2,.inl ⟨rfl,rfl,HX,BA⟩⟩
 case round=>
 clear HX BA R2 a2 le1 lt1 li1;obtain⟨i2,lt2,R2,a2,hcase⟩:=hrel;have le2:Hid (i0<=i2):=Nat.le_of_lt lt2.out;have d1:Hid (lO wr q 2=i2):=iy (je R2.out.fields.2.2.1);rcases hcase with⟨rfl,rfl,HX,BA⟩ | ⟨m,n,g,t,_,l,ys,rfl,rfl,rfl,hln,hl1,hmk,hfu,HX,HM⟩
 rotate_left
 focus
  obtain⟨m,rfl⟩:∃j,m=j+1:=⟨m-1,by omega⟩;replace HX:Hid (X=if l<n then (iF [⟨#[40]⟩] (L.drop i2)).bind fun (_,r)=>if lk el t (if t=1 then 1-(l:Int) else l.length) true r then (l_ el r).bind fun (tv,r)=>if tv.1=t then (iF [⟨#[45,62]⟩] r).bind fun (_,r)=>(jg el m r).bind fun (x,r)=>(iF [⟨#[41]⟩] r).bind fun (_,r)=>we el m s t n (l++[x]) r else none else none else some (.mk 9 0 t 0 s (if t=1 then l.reverse else l),L.drop i2)):=HX;by_cases hlt:l<n;rotate_left
  ·have lI:¬((l:Int)<(n:Int)):=iu
   have ln2:l.length=ys:=by have:=HM.out.yn;omega
   replace HX:Hid (X=some (.mk 9 0 t 0 s (if t=1 then l.reverse else l),L.drop i2)):=HX.out.trans (iV hlt);obtain⟨yn,hbo,hco,RB,RG,DA,hag,hty,h16⟩:=HM.out;subst yn;replace RB:=iy RB;replace RG:=iy RG;obtain⟨m0,m1,m2,m3,m4,m5⟩:=RB.out.c6;have ml:=RB.out.is_le;have hBr:qP wr r oE:=iP.Og (HB.out.after (k:=a2)) hrq;obtain⟨n0,n1,n2,n3,n4,n5⟩:=hBr.cells;have nl:=hBr.is_le;obtain⟨f0,f1,f2,f3,f4,f5⟩:=iP.f6 hBr;have E0:RX (old w0 wr) (.mk 9 0 t 0 s (some g) ys.length ys):=pR.rx (iP.old RG.out iu) (fun y hy=>(DA y hy).sub (sZ wr fun b hb=>by simp[hb])) iu 9 0 t 0 s hS.out;have hEr:(Tx.mk 9 0 t 0 s (some g) ys.length ys).er=.mk 9 0 t 0 s (if t=1 then l.reverse else l):=by rw[qp,Cv.done hco ln2 hbo]
   obtain⟨W,hW,EW,RW,aW,oW,sW⟩:=jY hBr R2.out hrq (ij (im aw0) a2) (Nat.le_of_eq hr) iu (.mk 9 0 t 0 s (some g) ys.length ys);simp only[txs]at hW;replace hco:=iy hco;replace hbo:=iy hbo;replace E0:=iy E0;clear DA;go_wp2_with fail;try rw[hW]
   clear hW;obtain⟨u0,u1,u2,u3,u4,u5⟩:=EW.cells;simp only[txs]at u0 u1 u2 u3 u4 u5;exact bodyPost_ret (v:=.agg #[.int .i64 9,JX,t,JX,s,.slice g ys ys]) (by simp[results,results178,go_sem,u0,u1,u2,u3,u4,u5]) rfl (pk.some (x:=.mk 9 0 t 0 s (if t=1 then l.reverse else l)) HX.out aW ⟨.mk 9 0 t 0 s (some g) ys.length ys,hEr,rfl,(E0.out.below (oW w0 iu).below).sub (iS iu W)⟩ RW rfl le2.out)
  replace HX:=iy (HX.out.trans (iG hlt));obtain⟨wn,hwn⟩:∃wn:Nat,(if t=1 then 1-(l:Int) else l.length)=wn:=by
   by_cases ht:t=1
   ·have:=HM.out.bo ht
    exact⟨0,by rw[iG ht];omega⟩
   exact⟨l,iV ht⟩
  have hw:Hid (wn=if t=1 then 1-l.length else l.length):=by
   show _=_
   by_cases ht:t=1
   ·have:=HM.out.bo ht
    rw[iG ht]at hwn⊢;omega
   rw[iV ht]at hwn⊢;omega
  rw[hwn]at HX;have lI:(l:Int)<(n:Int):=iu
  have l0:(0:Int)<(l:Int):=iu
  have lD:decide (0<l.length)=true:=decide_eq_true hl1;go_wp2_with fail;refine td (jH R2.out [⟨#[40]⟩] iI) HX a2 le2 ?_;clear HX;rintro w3 x3 v3 i3 rfl R3 HX le3 li3 b3 a3;replace HM:=iy (HM.out.to hq0 hn0 b3);have m2:w3.cell? (ra,2)=t:=(HM.out.rb.cell 2).trans rfl;have ml:=HM.out.rb.is_le;obtain⟨c0,c1,c2,c3,c4,c5⟩:=R3.out.fields;clear b3;go_upto_region 9 with fail
  go_cut [38] (fun p wx=>w3=wx/\p=.bool (decide (t=1)))
  ·
   by_cases ht:t=1
   ·subst ht
    go_wp2;go_meet;exact⟨rfl,rfl⟩
   have e1:(t==1)=false:=by rw[beq_eq_false_iff_ne];exact ht
   have e2:decide (t=1)=false:=decide_eq_false ht;go_wp2;go_meet;exact⟨rfl,by rw[e2]⟩
  obtain⟨rfl,rfl⟩:=hcut;go_upto_if 38 with fail
  go_cut [7] (fun p wx=>w3=wx/\p=.int .i64 (wn:Nat))
  ·
   by_cases ht:t=1
   ·have hn:=HM.out.bo ht
    obtain rfl:wn=0:=by rw[hw.out,iG ht];omega
    have l1:(1:Int)-(l:Int)=0:=iu
    have e2:decide (t=1)=true:=decide_eq_true ht;go_wp2;go_meet;exact⟨rfl,rfl⟩
   obtain rfl:wn=l:=by rw[hw.out,iV ht]
   have e2:decide (t=1)=false:=decide_eq_false ht;go_wp2;go_meet;exact⟨rfl,rfl⟩
  obtain⟨rfl,rfl⟩:=hcut;go_wp2_with fail;refine wnS R3.out HX a3 ?_;clear HX m2 ml c0 c1 c2 c3 c4 c5;rintro w5 R5 HX hZW b5 a5;replace HM:=iy (HM.out.to hq0 hn0 b5);go_wp2_with fail;refine BC (wy R5.out) HX a5 le3 ?_;clear HX;rintro w10 ⟨t',tv⟩ v6 i6 hY6 rfl R10 HX le6 li6 b6 a10;replace HM:=iy (HM.out.to hq0 hn0 b6);have lt6:i3<i6:=by have h1:=rW hY6;rw[List.length_drop,List.length_drop]at h1;have:=R10.out.le;omega
  have m2:w10.cell? (ra,2)=t:=(HM.out.rb.cell 2).trans rfl;have ml:=HM.out.rb.is_le;replace HX:Hid (X=if t'=t then (iF [⟨#[45,62]⟩] (L.drop i6)).bind fun (_,r)=>(jg el m r).bind fun (x,r)=>(iF [⟨#[41]⟩] r).bind fun (_,r)=>we el m s t n (l++[x]) r else none):=HX;clear hZW b5 a5 R5 hY6 R3 a3 hwn;by_cases hte:t'=t;rotate_left
  ·have e1:(t' != t)=true:=by rw[bne_iff_ne];exact hte
   replace HX:=HX.out.trans (iV hte);have HF:=iy (nj R10.out i3 iu 5);go_wp2_with fail;refine HF.out.mono ?_;rintro e w24 ⟨⟨a,rfl⟩,a24⟩;unfold oD;go_wp2_with fail;exact⟨rfl,pk.none HX (ij (im aw0) (ij a10 (im a24))) (jz a 5 iI)⟩
  replace HX:=iy (HX.out.trans (iG hte));obtain rfl:t=t':=hte.symm;replace hfu:20*(L-i6)+10<=m:=by have:=R10.out.le;omega
  replace hmk:m<=k:=iu
  go_wp2_with fail;clear m2 ml
 rotate_left
 focus
  go_wp2_with fail;refine td (jH R2.out [⟨#[40]⟩] iI) HX a2 le2 ?_;clear HX;rintro w3 x3 v3 i3 rfl R3 HX le3 li3 b3 a3;have BA3:=kq BA.out haq b3;obtain⟨m2,f2,ml⟩:=BA3.at1 2;obtain⟨c0,c1,c2,c3,c4,l0⟩:=R3.out.fields;obtain⟨z,hz⟩:=jt (jq ⟨#[116,114,117,101]⟩ (L.drop i3));have HC:=nK R3.out ⟨#[116,114,117,101]⟩;obtain⟨wn,hwn⟩:=jt (cond z 1 0:Nat);replace HX:Hid (X=if lk el 0 (wn:Int) false (L.drop i3)=true then (l_ el (L.drop i3)).bind fun (tv,r)=>(iF [⟨#[45,62]⟩] r).bind fun (_,r)=>(jg el k r).bind fun (x,r)=>(iF [⟨#[41]⟩] r).bind fun (_,r)=>we el k s tv.1 (jV el tv.1) [x] r else none):=by
   have h1:X=if lk el 0 (if jq ⟨#[116,114,117,101]⟩ (L.drop i3)=true then 1 else 0) false (L.drop i3)=true then _ else none:=HX.out
   rw[hz,show (if z=true then (1:Int) else 0)=(wn:Int) by rw[<- hwn];cases z<;>rfl]at h1;exact h1
  rw[hz]at HC;replace HC:=iy HC;replace hz:=iy hz;go_wp2_with fail;refine HC.out.mono ?_;clear HC;rintro e w4 ⟨rfl,aN⟩;have R4:=iy (R3.out.after aN);have a4:=ij a3 (im (q:=q) aN);have BA4:=kq BA3 haq (im aN);clear m2 f2 ml c0 c1 c2 c3 c4 l0 BA BA3 R3 a3 aN;go_upto_if 38 with fail
  go_cut [7] (fun p wx=>w4=wx/\p=.int .i64 (wn:Nat))
  ·
   obtain rfl:=hwn;cases z;all_goals
    go_wp2;go_meet;exact⟨rfl,rfl⟩
  obtain⟨rfl,rfl⟩:=hcut;obtain⟨m2,f2,ml⟩:=BA4.at1 2;go_wp2_with fail;refine wnS R4.out HX a4 ?_;clear HX m2 f2 ml;rintro w5 R5 HX hZW b5 a5;have BA5:=kq BA4 haq b5;go_wp2_with fail;refine BC (wy R5.out) HX a5 le3 ?_;clear HX;rintro w6 ⟨t,tv⟩ v6 i6 hY6 rfl R6 HX le6 li6 b6 a6;have BA6:=kq BA5 haq b6;have lt6:i3<i6:=by have h1:=rW hY6;rw[List.length_drop,List.length_drop]at h1;have:=R6.out.le;omega
  obtain⟨g1,g2,g3,g4,g5,g6,g7⟩:=vu htag hY6;have hwt:Hid (wn=if t=1 then 1 else 0):=by
   show _=_
   rw[<- hwn];cases z with
   |true=>rw[iG (g6 hz.out)];rfl
   |false=>
   rw[iV (g7 hz.out ?_)]
   ·rfl
   have h1:=hZW.out;unfold lk at h1;rw[hz.out,<- hwn]at h1;cases h2:jq ⟨#[102,97,108,115,101]⟩ (L.drop i3) with
   |false=>rfl
   |true=>rw[h2]at h1;simp at h1
  replace HX:Hid (X=(iF [⟨#[45,62]⟩] (L.drop i6)).bind fun (_,r)=>(jg el k r).bind fun (x,r)=>(iF [⟨#[41]⟩] r).bind fun (_,r)=>we el k s t (jV el t) [x] r):=HX;obtain⟨c0,c1,c2,c3,c4,l0⟩:=R6.out.fields;have HC:Hid (Calls prog 120 #[(eA,el,ec),t] w6 fun e w'=>e=.returned (.int .i64 (jV el t:Nat))/\ik w6 w'):=uS (w0:=w6) (x:=⟨eA,ec,el⟩) R6.out.enums w6 (iq _) t iu;generalize jV el t=n at HC HX g3 g4 g5;replace g5:=iy g5;clear g6 g7 hY6 hZW BA4 BA5 R4 R5 a4 a5 b5 b6;go_wp2_with fail;refine HC.out.mono ?_;clear HC;rintro e w7 ⟨rfl,a7⟩;have BA7:=iP.after (w:=w6) (k:=a7) BA6;obtain⟨w8,hw8,R8,a8,BA8⟩:∃v,w7.setCell (ra,2) (.int .i64 t)=v/\Hid (Rd B q A c L en eA ec el v i6)/\ik (iz q w0) (iz q v)/\iP v ra 73 #[.int .i64 9,JX,t,JX,s,()]:=⟨_,rfl,(R6.out.after a7).set haq hB0 _ _,iJ (k:=uD.Qn hn0) (h:=tD a6 a7) _ _,BA7.jx 2 (.int .i64 t)⟩;obtain⟨m2,f2,ml⟩:=BA7.at1 2;clear c0 c1 c2 c3 c4 l0;obtain⟨ei,e1,e2,e3,e4⟩:=info_parts qs;replace e1:=iy e1;replace e2:=iy e2;replace e3:=iy e3;replace e4:=iy e4;go_wp2_with fail;try rw[hw8]
  obtain⟨w9,hrun,hown,hg2⟩:=run_make_full (P:=prog) w8 w8 63 73 ei _ 6 underlying63 e1.out e2.out e3.out .i64 .i64 n (by rw[e4.out];omega) (by unfold maxLen;omega) (js _);rw[hrun];clear hrun;simp only[Result.andThen];rw[Oper.upon_value];obtain⟨g,hg⟩:=jt w8.heap.size;rw[hg]at hown⊢;have RG:=pR.KT rfl hown;have a9:ik w8 w9:=⟨hg2.os,hg2.tape,hg2.output,hg2.size,fun k hk=>hg2.block k hk (by simp)⟩;have BA9:=iP.after (w:=w8) (k:=a9) BA8;have hag:ra<g:=by have:=BA8.lt;omega
  obtain⟨w10,hw10,R10,a10,HM⟩:∃v,w9.setCell ⟨ra,5,none⟩ (.slice (some ⟨g,0,none⟩) n n)=v/\Hid (Rd B q A c L en eA ec el v i6)/\ik (iz q w0) (iz q v)/\Hid (MCx ra w0.heap.size s v n g t [] (List.replicate n oE)):=⟨_,rfl,(R8.out.after a9).set haq hB0 _ _,iJ (k:=uD.Qn hn0) (h:=tD a8 a9) _ _,⟨List.length_replicate,g5.out,(fun j x hx=>by cases hx),BA9.jx 5 (.slice (some ⟨g,0,none⟩) n n),iP.qU RG (p:=⟨ra,5,none⟩) (by show g≠ra;omega) _,fun y hy=>by rw[List.eq_of_mem_replicate hy];exact RX.leaf 0 0 0 0 ⟨#[]⟩ iI,hag,Sl g1 g2 hel,g4⟩⟩;clear m2 f2 ml hw8 hg2 hown RG BA6 BA7 BA8 R8 a8 a9 R6 a6 e1 e2 e3 e4 hg;have m2:w10.cell? ⟨ra,2,none⟩=some (.int .i64 t):=(HM.out.rb.cell 2).trans rfl;have m1:=HM.out.rb.is_le;obtain⟨m5,f5,ml⟩:=BA9.at1 5;go_wp2_with fail;try rw[hw10]
  clear m2 m1 m5 f5 ml hw10 BA9;obtain⟨m,l,ys,hmk,hfu,hln,l0,hw,HX,HM⟩:∃(m:Nat) (l:List Ex) (ys:List Tx),m<=k/\20*(L-i6)+10<=m/\l<n/\l.length=0/\Hid (wn=if t=1 then 1-l.length else l.length)/\Hid (X=(iF [⟨#[45,62]⟩] (L.drop i6)).bind fun (_,r)=>(jg el m r).bind fun (x,r)=>(iF [⟨#[41]⟩] r).bind fun (_,r)=>we el m s t n (l++[x]) r)/\Hid (MCx ra w0 s w10 n g t l ys):=⟨k,[],_,js _,by have:=lt2.out;have:=R10.out.le;omega,g3,rfl,hwt,HX,HM⟩;clear hwt hwn
 all_goals
  refine td (jH R10.out [⟨#[45,62]⟩] iI) HX a10 le6 ?_;clear HX;rintro w11 x7 v7 i7 rfl R11 HX le7 li7 b7 a11;have N1:=HM.out.to hq0 hn0 b7;have wlt:wn<n:=by
   have h1:=hw.out;by_cases ht:t=1
   ·have:=N1.bo ht
    rw[iG ht]at h1;omega
   rw[iV ht]at h1;omega
  have hag:=N1.ag;have hgq:g≠q:=iu
  have hgB:B<=g:=iu
  have hgw:w0<=g:=iu
  have hgl:=N1.rg.lt;clear HM b7 R10 a10 le6;have HC:Hid (∀U,ik w11 U->Calls prog 71 #[.pointer q] U (pk B q A c L en eA ec el U i7 (jg el m (L.drop i7)) (VX U))):=fun U hU=>(C m hmk).e U i7 (R11.out.after hU) (by have:=R11.out.le;omega)
  replace HX:Hid (X=Option.bind (jg el m (L.drop i7)) _):=HX;generalize hYE:jg el m (L.drop i7)=Y at HC HX;have HK:Hid (∀U,ik (iz q w11) (iz q U)->U.cell? (ra,5)=some (.slice (some g) n n)):=fun U hU=>((kq N1.rb haq hU).cell 5).trans rfl
  replace N1:=iy N1;have x1:(wn:Int)<(n:Int):=iu
  have lra:Le (ra+1) w11:=N1.out.rb.is_le;go_wp2_with fail;refine jm (fun U:yM=>U.cell? (ra,5)=some (.slice g n n)) [5,6] kp ?_;have h0:=HK.out w11.drew zc;refine wT 0 [1,5,6] (.pointer (ra,5)) h0 ?_;try simp only[Act.put,oF,oB,oq]
  refine wT 1 [5,6] (.slice g n n) h0 ?_;try simp only[Act.put,oF,oB,oq]
  refine wT 2 [5,6] (.int .i64 (wn:Nat)) h0 ?_;try simp only[Act.put,oF,oB,oq]
  refine wT 3 [4,5,6] (.pointer q) h0 ?_;try simp only[Act.put,oF,oB,oq]
  clear h0;refine lH 4 ?_;go_simp;go_at_call 71;refine (HC.out _ zc).mono ?_;clear HC;rintro e w9 ⟨aZ,hY⟩;have aM:ik (iz q w11) (iz q w9):=ij (im zc) aZ;rcases Y with _ | ⟨x9,r9⟩
  ·obtain⟨a,er,rfl,he⟩:=hY
   unfold oD;exact⟨rfl,pk.none HX.out (ij (im aw0) (ij a11 aM)) (jz a er he)⟩
  obtain⟨v9,i9,rfl,⟨⟨k9,o9,t9,z9,s9,A9,c9,xs9⟩,hx9,rfl,D9⟩,R9,rfl,hi9⟩:=hY;rw[JQ];refine kS (HK.out _ aM) ?_;have N9:=N1.out.to hq0 hn0 aM;have hwl:wn<ys:=by rw[N9.yn];exact wlt
  obtain⟨y0,q0,q1,q2,q3,q4,q5⟩:=N9.rg.cells hwl;have f0:=iP.frozen N9.rg (wn*6);have f1:=iP.frozen N9.rg (wn*6+1);have f2:=iP.frozen N9.rg (wn*6+2);have f3:=iP.frozen N9.rg (wn*6+3);have f4:=iP.frozen N9.rg (wn*6+4);have f5:=iP.frozen N9.rg (wn*6+5);have ql:=iP.is_le N9.rg;obtain⟨w12,hW,R12,a12,HM⟩:∃v,(((((w9.setCell (g,wn*6) (.int .i64 k9)).setCell (g,wn*6+1) (.int .i64 o9)).setCell (g,wn*6+2) (.int .i64 t9)).setCell (g,wn*6+3) (.int .i64 z9)).setCell (g,wn*6+4) (.string s9)).setCell (g,wn*6+5) (.slice A9 xs9 c9)=v/\Hid (Rd B q A c L en eA ec el v i9)/\ik (iz q w0) (iz q v)/\Hid (MCx ra w0 s v n g t (l++[x9]) (ys.set wn (Tx.mk k9 o9 t9 z9 s9 A9 c9 xs9))):=by
   have F:∀{u:yM} {T:TypeId} {cs:Array Value} (j:Nat) (v:Value),iP u ra T cs->iP (u.setCell (g,j) v) ra T cs:=fun j v h=>h.qU (p:=(g,j)) (by show ra≠g;omega) v
   refine⟨_,rfl,((((((R9.set hgq hgB _ _).set hgq hgB _ _).set hgq hgB _ _).set hgq hgB _ _).set hgq hgB _ _).set hgq hgB _ _),iJ (k:=uD.Qn hgw) (h:=iJ (k:=uD.Qn hgw) (h:=iJ (k:=uD.Qn hgw) (h:=iJ (k:=uD.Qn hgw) (h:=iJ (k:=uD.Qn hgw) (h:=iJ (k:=uD.Qn hgw) (h:=ij a11 aM) _ _) _ _) _ _) _ _) _ _) _ _,(List.length_set ..).trans N9.yn,N9.bo,Cv.add N9.co rfl hw.out hwl (fun ht=>by have:=N9.bo ht;omega) hx9,(F _ _ (F _ _ (F _ _ (F _ _ (F _ _ (F _ _ N9.rb)))))),N9.rg.store hwl (Tx.mk k9 o9 t9 z9 s9 A9 c9 xs9),fun y hy=>?_,hag,N9.ty,N9.nn⟩;refine RX.below (zn (S:=(fun b=>decide (b<w0)||b==ra||b==g)) (r:=g) (i:=wn*6) (by simp) w9 _ _ _ _ _ _).below ?_;rcases List.mem_or_eq_of_mem_set hy with hy | rfl
   ·exact N9.da y hy
   exact D9.sub (nO w9 fun b hb=>by simp only[Bool.or_eq_true,decide_eq_true_eq,beq_iff_eq]at hb;have h2:=lZ a11;show b<w11.heap.size;omega)
  have le9:Hid (i0<=i9):=jW le7.out hi9;refine lH 5 ?_;go_simp;try refine kL ?_
  refine lH 6 ?_;go_simp;try refine kL ?_
  try rw[hW]
  refine iT kp ?_ _;clear q0 q1 q2 q3 q4 q5 f0 f1 f2 f3 f4 f5 ql hW N9 R9 D9 HK aM aZ N1 R11 a11 le7;replace HX:Hid (X=(iF [⟨#[41]⟩] (L.drop i9)).bind fun (_,r)=>we el m s t n (l++[x9]) r):=HX;go_wp2_with fail;refine td (jH R12.out [⟨#[41]⟩] iI) HX a12 le9 ?_;clear HX;rintro w13 x8 v8 i8 rfl R13 HX le8 li8 b8 a13;replace HM:=iy (HM.out.to hq0 hn0 b8);have ll:(l++[x9]).length=l.length+1:=by simp
  have l2:=lt2.out;have lL:=R13.out.le;have l16:=HM.out.nn;go_wp2;go_roundw
  case rel=>exact⟨i8,(show i0<i8 by omega),R13,a13,.inr ⟨m,n,g,t,_,_,_,rfl,rfl,by rw[ll];omega,by omega,by omega,hmk,by omega,HX,HM⟩⟩
  case measure=>(rw[je R13.out.fields.2.2.1,d1.out];omega)
end
section
variable {B:yM} {q:Nat} {A:zA} {c:Nat} {L:List Tk} {en:Int} {eA:zA} {ec:Nat} {el:List iW} {w w0 W W':yM} {i i' i0 ra:Nat} {s:yB} {u:Int} {v:Value} {J:List Tx}
structure CaS (B:yM) (q:Nat) (A:zA) (c:Nat) (L:List Tk) (en:Int) (eA:zA) (ec:Nat) (el:List iW) (w0:yM) (ra:Nat) (s:yB) (i0:Nat) (W:yM) (i:Nat) (u:Int) (v:Value) (J:List Tx):Prop where
 R:Rd B q A c L en eA ec el W i
 a:ik (iz q w0) (iz q W)
 b:iP W ra 73 #[.int .i64 10,JX,JX,u,s,v]
 o:kZ (ra+1) 73 6 jj RX (fun b=>decide (b<ra+1)) W v J
 n:J<=i+1
 le:i0<=i
theorem CaS.to (h:CaS B q A c L en eA ec el w0 ra s i0 W i u v J) (hq:q<ra) (a:ik (iz q W) (iz q W')) (R:Rd B q A c L en eA ec el W' i') (hi:i<=i'):CaS B q A c L en eA ec el w0 ra s i0 W' i' u v J:=
 ⟨R,ij h.a a,kq h.b iu a,h.o.iv ld iu (by simp;omega) a,by have:=h.n;omega,by have:=h.le;omega⟩
theorem LP {k:Nat} (s:yB) (hs:s.size<=65536) (C:∀j≤k,CX B q A c L en eA ec el j) (h:Rd B q A c L en eA ec el w i) (hk:20*(L-i)+10<=k):Calls prog 179 #[.pointer q,s] w (pk B q A c L en eA ec el w i (sU el (k+1) s (L.drop i)) (VX w)):=by
 obtain⟨X,hX⟩:=jt (sU el (k+1) s (L.drop i));rw[hX];obtain⟨i0,hi0⟩:=jt i;rw[hi0]at hX h hk⊢;have HX:=iy hX.symm;have hq:=h.blk.lt;have hbase:=h.base;obtain⟨r,hr⟩:=jt w.heap.size;obtain⟨w0,hw0,aw0,B0,R0,s0⟩:=Ls h hr (show r≠q by omega) #[JX,JX,JX,JX,.string ⟨#[]⟩,()] 73;have HB:Hid (qP (iz q w0) r oE):=B0;have hS:=iy hs;clear h B0 hs hX hi0;go_in;go_wp2_with fail;try rw[hr]
 try rw[hw0]
 obtain⟨ra,hra⟩:=jt (r+1);have hqa:q<ra:=iu
 have z0:w0<=ra:=iu
 have z1:B<=ra:=iu
 have z2:r+1=w0:=iu
 obtain⟨w1,hw1,h1⟩:∃z,w0.alloc (.cells #[.int .i64 10,JX,JX,JX,s,()] 73)=z/\Hid (CaS B q A c L en eA ec el w0 ra s i0 z i0 0 (.slice none 0 0) []):=⟨_,rfl,iy ⟨R0.out.after zc,im zc,by rw[<- hra,<- s0];exact iP.new ..,.nil,by simp,js _⟩⟩;rw[hw1];try rw[hra]
 clear hw0 hw1 s0;go_wp2_with fail;refine (tB h1.out.R ⟨#[41]⟩).mono ?_;rintro e w2 ⟨z,hz,rfl,RZ,aZ⟩;have h2:=iy (h1.out.to hqa aZ RZ (by split<;>omega));replace HX:=iy (HX.out.trans (show (if jq ⟨#[41]⟩ (L.drop i0)=true then _ else _)=_ from by rw[hz]));clear h1 hz RZ aZ;go_upto_if 10 with fail
 go_cut [] (fun wx=>∃(i':Nat) (v:Value) (J:List Tx) (W:yM),W=wx/\Hid (CaS B q A c L en eA ec el w0 ra s i0 W i' 0 v J)/\Hid (X=oR el k s (J.map Tx.er) (L.drop i'))/\20*(L-i')+10<=k)
 ·
  cases z
  ·skip
   have h3:CaS B q A c L en eA ec el w0 ra s i0 w2 i0 0 (.slice none 0 0) []:=h2.out;replace HX:=iy (HX.out.trans (iV Bool.false_ne_true));clear h2;go_wp2_with fail;refine app8 ((C k (js _)).e _ _ (h3.R.after zc) hk) HX h3.a (iy h3.le) h3.b 5 rfl h3.o knX ld (fun _=>rfl) (by simp) h3.b.lt iu iu iu z1 z0 hcX (fun _=>rfl) (hvX _) ?_;clear HX;intro w3 y i3 v2 v9 v5 HX le3 li3 R3 a3 n3 b3 o3 nv;have h4:=iy (show CaS B q A c L en eA ec el w0 ra s i0 w3 i3 0 v2 [y] from⟨R3.out,a3,b3.out,o3.out,by simp,le3.out⟩);clear h3 le3 R3 a3 n3 b3 o3 nv;simp only[Act.put,sC];have hk3:20*(L-i3)+10<=k:=iu
   go_wp2_with fail;go_loopw [] (fun wr=>∃(i' m:Nat) (v:Value) (J:List Tx),m<=k/\20*(L-i')+10<=m/\Hid (X=(rF el m (J.map Tx.er) (L.drop i')).bind fun (l,r)=>(iF [⟨#[41]⟩] r).bind fun (_,r)=>oR el k s l r)/\Hid (CaS B q A c L en eA ec el w0 ra s i0 wr i' 0 v J)) (fun wr=>L.length-lO wr q 2)
   ·exact⟨i3,k,v2,[y],js _,hk3,HX,h4⟩
   case round=>
   clear HX h4;obtain⟨i4,m,v,J,hm,hk4,HX,h4⟩:=hrel;obtain⟨m,rfl⟩:∃j,m=j+1:=⟨m-1,by omega⟩;have d1:Hid (lO wr q 2=i4):=iy (je h4.out.R.fields.2.2.1);go_wp2_with fail;refine (tB h4.out.R ⟨#[44]⟩).mono ?_;rintro e w5 ⟨z,hz,rfl,RZ,aZ⟩;have h5:=iy (h4.out.to hqa aZ RZ (by split<;>omega));replace HX:=iy (HX.out.trans (congrArg (fun t=>Option.bind t _) (show (if jq ⟨#[44]⟩ (L.drop i4)=true then _ else _)=_ from by rw[hz])));have hl4:=And.intro h4.out.n (And.intro h4.out.R.le fun h:z=true=>pI (hz.trans h));clear h4 RZ aZ hz;cases z
   ·skip
    have h6:Hid (CaS B q A c L en eA ec el w0 ra s i0 w5 i4 0 v J):=h5;replace HX:Hid (X=(iF [⟨#[41]⟩] (L.drop i4)).bind fun (_,r)=>oR el k s (J.map Tx.er) r):=HX;clear h5;go_wp2_with fail;refine td (jH h6.out.R [⟨#[41]⟩] iI) HX h6.out.a (iy h6.out.le) ?_;clear HX;intro w7 x7 v7 i7 e7 R7 HX le7 li7 b7 a7;subst e7;have h8:=iy (h6.out.to hqa b7 R7.out li7);clear h6 R7 le7 b7 a7;go_wp2;go_meet;exact⟨_,_,_,_,rfl,h8,HX,by omega⟩
   skip;have h6:CaS B q A c L en eA ec el w0 ra s i0 w5 (i4+1) 0 v J:=h5.out;replace HX:Hid (X=(jg el m (L.drop i4).tail).bind fun y=>((rF el m (J.map Tx.er++[y.1]) y.2).bind fun (l,r)=>(iF [⟨#[41]⟩] r).bind fun (_,r)=>oR el k s l r)):=iy (HX.out.trans (Option.bind_assoc ..));rw[tail_drop]at HX;have h44:=hl4.2.2 rfl;clear h5;go_wp2_with fail;refine app8 ((C m iu).e _ _ (h6.R.after zc) iu) HX h6.a (iy h6.le) h6.b 5 rfl h6.o knX ld (fun _=>rfl) (by have:=h6.R.few;omega) h6.b.lt iu iu iu z1 z0 hcX (fun _=>rfl) (hvX _) ?_;clear HX;intro w7 y i7 v2 v9 v5 HX le7 li7 R7 a7 n7 b7 o7 nv;have h8:=iy (show CaS B q A c L en eA ec el w0 ra s i0 w7 i7 0 v2 (J++[y]) from⟨R7.out,a7,b7.out,o7.out,by simp;omega,le7.out⟩);replace HX:Hid (X=(rF el m ((J++[y]).map Tx.er) (L.drop i7)).bind fun (l,r)=>(iF [⟨#[41]⟩] r).bind fun (_,r)=>oR el k s l r):=by (show _=_;rw[List.map_append];exact HX.out)
   have l7:=R7.out.le;clear h6 le7 R7 a7 n7 b7 o7 nv;simp only[Act.put,sC];go_wp2;go_roundw
   case rel=>exact⟨i7,m,v2,J++[y],by omega,by omega,HX,h8⟩
   case measure=>(rw[je h8.out.R.fields.2.2.1,d1.out];omega)
  skip;have h3:CaS B q A c L en eA ec el w0 ra s i0 w2 (i0+1) 0 (.slice none 0 0) []:=h2.out;replace HX:=iy (HX.out.trans (iG rfl));clear h2;go_wp2;go_meet;exact⟨_,_,_,_,rfl,iy h3,(by rw[tail_drop]at HX;exact HX),by omega⟩
 case rest=>
 clear HX h2;obtain⟨i4,v,J,w4,rfl,h4,HX,hk4⟩:=hcut;obtain⟨k,rfl⟩:∃j,k=j+1:=⟨k-1,by omega⟩;go_wp2_with fail;refine (tB h4.out.R ⟨#[101,118,101,114,121]⟩).mono ?_;rintro e w5 ⟨z,hz,rfl,RZ,aZ⟩;have h5:=iy (h4.out.to hqa aZ RZ (by split<;>omega));replace HX:=iy (HX.out.trans (show (if jq ⟨#[101,118,101,114,121]⟩ (L.drop i4)=true then _ else _)=_ from by rw[hz]));have hl4:=h4.out.n;clear h4 RZ aZ hz;go_upto_if 31 with fail
 go_cut [] (fun wx=>∃(i':Nat) (u:Int) (v:Value) (J:List Tx) (W:yM),W=wx/\Hid (CaS B q A c L en eA ec el w0 ra s i0 W i' u v J)/\Hid (X=some (.mk 10 0 0 u s (J.map Tx.er),L.drop i')))
 ·
  cases z
  ·skip
   go_wp2;go_meet;exact⟨_,_,_,_,_,rfl,h5,HX⟩
  skip;have h6:CaS B q A c L en eA ec el w0 ra s i0 w5 (i4+1) 0 v J:=h5.out;replace HX:Hid (X=(kV el k (L.drop i4).tail).bind fun y=>some (.mk 10 0 0 1 s (J.map Tx.er++[y.1]),y.2)):=HX;rw[tail_drop]at HX;clear h5;go_wp2_with fail;refine app8 ((C k iu).p _ _ (h6.R.after zc) iu) HX h6.a (iy h6.le) h6.b 5 rfl h6.o knX ld (fun _=>rfl) (by have:=h6.n;have:=h6.R.few;have:=h6.R.le;omega) h6.b.lt iu iu iu z1 z0 hcX (fun _=>rfl) (hvX _) ?_;clear HX;intro w7 y i7 v2 v9 v5 HX le7 li7 R7 a7 n7 b7 o7 nv;have h8:=iy (show CaS B q A c L en eA ec el w0 ra s i0 (w7.setCell (ra,3) (.int .i64 1)) i7 1 v2 (J++[y]) from⟨R7.out.set iu z1 _ _,iJ (k:=⟨by rw[iZ];exact z0⟩) (h:=a7) _ _,b7.out.jx 3 _,o7.out.set ld (by simp) nv _ _,by simp;omega,le7.out⟩);replace HX:Hid (X=some (.mk 10 0 0 1 s ((J++[y]).map Tx.er),L.drop i7)):=by (show _=_;rw[List.map_append];exact HX.out)
  obtain⟨_,_,_,c3,_,_⟩:=b7.out.c6;have l7:=b7.out.is_le;have f7:=b7.out.frozen 3;clear h6 le7 R7 a7 n7 b7 o7 nv;simp only[Act.put,sC];go_wp2;go_meet;exact⟨_,_,_,_,_,rfl,h8,HX⟩
 case rest=>
 clear HX h5;obtain⟨i6,u,v,J,w6,rfl,h6,HX⟩:=hcut;obtain⟨AF,cF,rfl,DF⟩:=h6.out.o.rx (fun b hb=>decide_eq_true hb) (by have:=h6.out.n;have:=h6.out.R.few;have:=h6.out.R.le;omega) 10 0 0 u s hS.out;obtain⟨m0,m1,m2,m3,m4,m5⟩:=h6.out.b.c6;have ml:=h6.out.b.is_le;have hBr:qP w6 r oE:=iP.Og (HB.out.after (k:=h6.out.a)) iu;obtain⟨n0,n1,n2,n3,n4,n5⟩:=hBr.cells;have nl:=hBr.is_le;obtain⟨f0,f1,f2,f3,f4,f5⟩:=iP.f6 hBr;obtain⟨YY,hY⟩:=jt J;obtain⟨W,hW,EW,RW,aW,oW,sW⟩:=jY hBr h6.out.R iu (ij (im aw0) h6.out.a) (Nat.le_of_eq hr) iu (.mk 10 0 0 u s AF cF YY);have hle:=h6.out.le;rw[hY]at m5 DF HX;simp only[Tx.kind,Tx.op,Tx.ty,Tx.va,Tx.name,Tx.ad,Tx.args,Tx.cap]at hW;clear h6;go_wp2_with fail;try rw[hW]
 obtain⟨u0,u1,u2,u3,u4,u5⟩:=EW.cells;simp only[Tx.kind,Tx.op,Tx.ty,Tx.va,Tx.name,Tx.ad,Tx.args,Tx.cap]at u0 u1 u2 u3 u4 u5;exact bodyPost_ret (v:=.agg #[.int .i64 10,JX,JX,u,s,(AF,YY,cF)]) (by simp[results,results179,go_sem,u0,u1,u2,u3,u4,u5]) rfl (pk.some HX.out aW ⟨.mk 10 0 0 u s AF cF YY,qp ..,rfl,((show RX (old w0 w6) _ from DF.sub (iS iu _)).below (oW w0 iu).below).sub (iS iu W)⟩ RW rfl hle)
end
end
end
abbrev vZ:=@kZ.nil
section
variable {B:yM} {q:Nat} {A:zA} {c:Nat} {L:List Tk} {en:Int} {eA:zA} {ec:Nat} {el:List iW} {w w0 w1:yM} {i:Nat}
theorem Ea {k:Int} {t:Tk} {L:List Tk} {j:Nat} (h:L[j]?=some t):ju k (L.drop j)=(t.kind==k):=by rw[oU h];rfl
theorem Jw {t:Tk} {L:List Tk} {j:Nat} (h:L[j]?=some t):Cb (L.drop j)=t.text:=by rw[oU h];rfl
theorem L7 {L:List Tk} {j:Nat} (h:rI (L.drop j)=true):ju 2 (L.drop (j+1))=true:=by
 unfold rI at h;rw[mT,tail_drop]at h;exact h.2
theorem JZ {t:yB} (hd:∀c∈t.data.toList,jw (c.toNat:Nat)=true) (hs:t.size<=5):0<=rY t/\rY t<100000:=by
 have j:=FG t.data.toList 0 0 hd iI iI;have I:∀n:Nat,n<=5->(10:Int) ^ (0+n)<=100000:=iI;have o:=I t.data.toList (by rw[jr];exact hs);exact⟨j.1,Int.lt_of_lt_of_le j.2 o⟩
theorem EM {k:Nat} (htag:∀u∈el,u.tags.l.length<=16) (hel:el.length<=1000) (C:∀j≤k,CX B q A c L en eA ec el j) (h:Rd B q A c L en eA ec el w i) (hk:20*(L-i)+1<=k+1):Calls prog 170 #[.pointer q] w (pk B q A c L en eA ec el w i (kV el (k+1) (L.drop i)) (VX w)):=by
 obtain⟨X,hX⟩:=jt (kV el (k+1) (L.drop i));rw[hX];obtain⟨o,cr⟩:=jt i;rw[cr]at hX h hk⊢;have I:=iB hX.symm;have ca:Hid (o<=o):=js _;have hq:=h.blk.lt;have cu:=h.base;obtain⟨r,hr⟩:=jt w.heap.size;have a':r≠q:=by omega
 have dc:q<r:=by omega
 obtain⟨w0,ch,aw0,B0,R0,s0⟩:=Ls h hr a' #[JX,JX,JX,JX,.string ⟨#[]⟩,()] 73;have HB:=iB B0;have a0:ik (iz q w0) (iz q w0):=iq _;go_in;go_wp2_with fail;try rw[hr]
 try rw[ch]
 have I:Hid (X=if rI (L.drop o) then some (.mk 1 0 2 (-(rY (Cb (L.drop o).tail))) ⟨#[]⟩ [],(L.drop o).tail.tail) else if jq ⟨#[45]⟩ (L.drop o) then none else if ju 2 (L.drop o) then (if 32767<rY (Cb (L.drop o)) then none else some (.mk 1 0 2 (rY (Cb (L.drop o))) ⟨#[]⟩ [],(L.drop o).tail)) else if ju 5 (L.drop o) then some (.mk 11 0 0 0 (Cb (L.drop o)) [],(L.drop o).tail) else if jq ⟨#[116,114,117,101]⟩ (L.drop o) then some (.mk 1 0 1 1 ⟨#[]⟩ [],(L.drop o).tail) else if jq ⟨#[102,97,108,115,101]⟩ (L.drop o) then some (.mk 1 0 1 0 ⟨#[]⟩ [],(L.drop o).tail) else if jq ⟨#[40]⟩ (L.drop o) then (jg el k (L.drop o).tail).bind fun (e,r)=>(iF [⟨#[41]⟩] r).bind fun (_,r)=>some (e,r) else if jq ⟨#[105,102]⟩ (L.drop o) then (jg el k (L.drop o).tail).bind fun (c,r)=>(iF [⟨#[116,104,101,110]⟩] r).bind fun (_,r)=>(jg el k r).bind fun (a,r)=>(iF [⟨#[101,108,115,101]⟩] r).bind fun (_,r)=>(jg el k r).bind fun (b,r)=>some (.mk 4 0 0 0 ⟨#[]⟩ [c,a,b],r) else if jq ⟨#[109,101,114,103,101]⟩ (L.drop o) then tI el k (L.drop o).tail else (pV (L.drop o)).bind fun (s,r)=>if jq ⟨#[40]⟩ r then sU el k s r.tail else match qh el s with | some (t,v)=>some (.mk 1 0 t v ⟨#[]⟩ [],r) | none=>some (.mk 2 0 0 0 s [],r)):=I;have HC:=iB (ze R0);obtain⟨z,hz⟩:=jt (rI (L.drop o));rw[hz]at HC;have HZ:=iB hz;go_wp2_with fail;refine HC.mono ?_;rintro e w1 ⟨rfl,aN⟩;have R1:=iB (R0.after aN);have a1:=ij a0 (im (q:=q) aN);have c':=ca
 cases z
 ·skip
  have I:=iB (I.trans (iV (Qa HZ)));have HC:=iB (nK R1 ⟨#[45]⟩);obtain⟨z,hz⟩:=jt (jq ⟨#[45]⟩ (L.drop o));rw[hz]at HC;have HZ:=iB hz;go_wp2_with fail;refine HC.mono ?_;rintro e w2 ⟨rfl,aN⟩;have R2:=iB (R1.after aN);have a2:=ij a1 (im (q:=q) aN);have c_:=c';cases z
  ·skip
   have I:=iB (I.trans (iV (Qa HZ)));have HC:=iB (qv R2 2);obtain⟨z,hz⟩:=jt (ju 2 (L.drop o));rw[hz]at HC;have HZ:=iB hz;go_wp2_with fail;refine HC.mono ?_;rintro e w3 ⟨rfl,aN⟩;have R3:=iB (R2.after aN);have a3:=ij a2 (im (q:=q) aN);have c9:=c_;cases z
   ·skip
    have I:=iB (I.trans (iV (Qa HZ)));have HC:=iB (qv R3 5);obtain⟨z,hz⟩:=jt (ju 5 (L.drop o));rw[hz]at HC;have HZ:=iB hz;go_wp2_with fail;refine HC.mono ?_;rintro e w4 ⟨rfl,aN⟩;have R4:=iB (R3.after aN);have a4:=ij a3 (im (q:=q) aN);have c8:=c9;cases z
    ·skip
     have I:=iB (I.trans (iV (Qa HZ)));go_wp2_with fail;refine Dx ⟨#[116,114,117,101]⟩ R4 I a4 c8 ?_ ?_
     ·clear I;intro w5 R5 I _ a5 bo
      go_wp2_with fail;refine Dx ⟨#[102,97,108,115,101]⟩ R5 I a5 bo ?_ ?_
      ·clear I;intro w6 R6 I _ a6 bn
       go_wp2_with fail;refine Dx ⟨#[40]⟩ R6 I a6 bn ?_ ?_
       ·clear I;intro w7 R7 I _ a7 bm
        go_wp2_with fail;refine Dx ⟨#[105,102]⟩ R7 I a7 bm ?_ ?_
        ·clear I;intro w8 R8 I _ a8 aV
         go_wp2_with fail;refine Dx ⟨#[109,101,114,103,101]⟩ R8 I a8 aV ?_ ?_
         ·clear I;intro w9 R9 I _ a9 aI
          have I:Hid (X=(pV (L.drop o)).bind fun (s,r)=>if jq ⟨#[40]⟩ r then sU el k s r.tail else match qh el s with | some (t,v)=>some (.mk 1 0 t v ⟨#[]⟩ [],r) | none=>some (.mk 2 0 0 0 s [],r)):=I;go_wp2_with fail;refine BC (qb R9) I a9 aI ?_;clear I;intro aC aT bF i10 bh aD aG I ai bf aR aB;obtain⟨rfl,b3⟩:=aD;have bw:o<i10:=by have h1:=mm bh;rw[nY,nY]at h1;have:=aG.le;omega
          obtain⟨s,hs⟩:=jt aT;rw[hs]at I b3⊢;have I:Hid (X=if jq ⟨#[40]⟩ (L.drop i10) then sU el k s (L.drop i10).tail else match qh el s with | some (t,v)=>some (.mk 1 0 t v ⟨#[]⟩ [],L.drop i10) | none=>some (.mk 2 0 0 0 s [],L.drop i10)):=I;go_wp2_with fail;refine Dx ⟨#[40]⟩ aG I aB ai ?_ ?_
          ·clear I;intro aU aF I _ aO av
           have HC:=iB (ED aF s);have I:Hid (X=match qh el s with | some (t,v)=>some (.mk 1 0 t v ⟨#[]⟩ [],L.drop i10) | none=>some (.mk 2 0 0 0 s [],L.drop i10)):=I;generalize qh el s=Y at HC I;go_wp2_with fail;refine HC.mono ?_;rintro e b8 ⟨a3,hY⟩;have bY:=iB (aF.after a3);have b':=ij aO (im (q:=q) a3);have bb:=av;cases Y with
           |none=>
            have hY:e=_:=hY;subst hY;have aP:Hid (X=some (.mk 2 0 0 0 s [],L.drop i10)):=I;have E0:RX (old w0 b8) (.mk 2 0 0 0 s none 0 []):=yS 2 0 0 0 s b3;have J:qP b8 r oE:=lM (HB.after (k:=b')) a';exact rx_ J bY a' b' aw0 hr bb aP E0
           |some tv=>
           obtain⟨t,v⟩:=tv;have hY:e=_:=hY;subst hY;have aP:Hid (X=some (.mk 1 0 t v ⟨#[]⟩ [],L.drop i10)):=I;have E0:RX (old w0 b8) (.mk 1 0 t v ⟨#[]⟩ none 0 []):=yS 1 0 t v ⟨#[]⟩ (by decide);have J:qP b8 r oE:=lM (HB.after (k:=b')) a';exact rx_ J bY a' b' aw0 hr bb aP E0
          clear I;intro aU aF I _ aO av bI;rw[tail_drop]at I;obtain⟨k',rfl⟩:∃j,k=j+1:=⟨k-1,by have:=aF.le;omega⟩;have I:Hid (X=sU el (k'+1) s (L.drop (i10+1))):=I;have HC:=iB (LP (k:=k') s b3 (fun j hj=>C j (by omega)) aF (by have h1:=aF.le;have h2:=bw;have h3:=bI;omega));generalize cH:sU el (k'+1) s (L.drop (i10+1))=Y at HC I;go_wp2_with fail;refine HC.mono ?_;rintro e ay ⟨aZ,hY⟩;have b6:=aZ;have aZ:=ij aO aZ;cases Y with
          |none=>
           obtain⟨a,er,rfl,he⟩:=hY;unfold oD;go_wp2;exact⟨rfl,kf I (ij (im aw0) aZ) (jz a er he)⟩
          |some y=>
          obtain⟨aS,cO⟩:=y;obtain⟨bZ,b9,rfl,b2,RZ,hr,hi⟩:=hY;subst hr;have bD:=iB RZ;have b7:=aZ;have aY:Hid (o<=b9):=jW av hi;have be:=hi;obtain⟨⟨k1,o1,t1,z1,s1,A1,c1,R⟩,aj,rfl,D1⟩:=b2;have ad:(Tx.mk k1 o1 t1 z1 s1 A1 c1 R).val=.agg #[k1,o1,t1,z1,s1,(A1,R,c1)]:=rfl;rw[ad];have D1:=iB (D1.sub (iS (by have h1:=lZ aO;exact h1) ay));have J:qP ay r oE:=lM (HB.after (k:=b7)) a';exact rx_ J bD a' b7 aw0 hr aY I D1 aj
         clear I;intro w9 R9 I _ a9 aI cX;rw[tail_drop]at I;obtain⟨k',rfl⟩:∃j,k=j+1:=⟨k-1,by have:=R9.le;omega⟩;have I:Hid (X=tI el (k'+1) (L.drop (o+1))):=I;have HC:=iB (IT (k:=k') htag hel (fun j hj=>C j (by omega)) R9 (by have:=R9.le;omega));generalize bh:tI el (k'+1) (L.drop (o+1))=Y at HC I;go_wp2_with fail;refine HC.mono ?_;rintro e aC ⟨aZ,hY⟩;have aR:=aZ;have aZ:=ij a9 aZ;cases Y with
         |none=>
          obtain⟨a,er,rfl,he⟩:=hY;unfold oD;go_wp2;exact⟨rfl,kf I (ij (im aw0) aZ) (jz a er he)⟩
         |some y=>
         obtain⟨aT,cP⟩:=y;obtain⟨bF,i10,rfl,aD,RZ,hr,hi⟩:=hY;subst hr;have aG:=iB RZ;have aB:=aZ;have ai:Hid (o<=i10):=jW aI hi;have bf:=hi;obtain⟨⟨k1,o1,t1,z1,s1,A1,c1,R⟩,aj,rfl,D1⟩:=aD;have ad:(Tx.mk k1 o1 t1 z1 s1 A1 c1 R).val=.agg #[k1,o1,t1,z1,s1,(A1,R,c1)]:=rfl;rw[ad];have D1:=iB (D1.sub (iS (by have h1:=lZ a9;exact h1) aC));have J:qP aC r oE:=lM (HB.after (k:=aB)) a';exact rx_ J aG a' aB aw0 hr ai I D1 aj
        clear I;intro w8 R8 I _ a8 aV cY;rw[tail_drop]at I;have cn:=R8.le;go_wp2_with fail;refine td ((C k (js k)).e w8 (o+1) R8 (by omega)) I a8 aV ?_;clear I;intro w9 x9 v9 i9 ck R9 I aI bR dk a9;obtain⟨⟨k1,o1,t1,z1,s1,A1,c1,R⟩,aj,rfl,D1⟩:=ck;have ad:(Tx.mk k1 o1 t1 z1 s1 A1 c1 R).val=.agg #[k1,o1,t1,z1,s1,(A1,R,c1)]:=rfl;rw[ad];have D1:=iB (D1.sub (iS (by have h1:=lZ a8;exact h1) w9));have aj:=iB aj;obtain⟨rv,aJ⟩:=jt w9.heap.size;have c6:r<rv:=by have h1:=lZ a9;omega
        have aH:rv≠q:=by omega
        obtain⟨aC,bN,B1,aG,aB,ae,c5⟩:∃v,w9.alloc (.cells #[k1,o1,t1,z1,s1,(A1,R,c1)] 73)=v/\Hid (qP v rv (.mk k1 o1 t1 z1 s1 A1 c1 R))/\Hid (Rd B q A c L en eA ec el v i9)/\ik (iz q w0) (iz q v)/\Hid (RX (old w0 v) (.mk k1 o1 t1 z1 s1 A1 c1 R))/\Hid (rv+1=v):=⟨_,rfl,by rw[<- aJ];exact jC ..,R9.after zc,ij a9 (im zc),D1.below (jK zc).below,by (show _=_;rw[iH,aJ])⟩;have ai:=aI;replace D1:=ae;clear ae;have bq:=iB bN;go_wp2_with fail;try rw[aJ]
        try rw[bq.out]
        try rw[c5.out]
        go_wp2_with fail;refine td (jH aG [⟨#[116,104,101,110]⟩] (by decide)) I aB ai ?_;clear I;intro aU cJ cL cb bP aF I av bS bk aO;subst bP;have ag:Hid (qP aU rv (.mk k1 o1 t1 z1 s1 A1 c1 R)):=iB (kq B1 aH bk);have ae:Hid (RX (old w0 aU) (.mk k1 o1 t1 z1 s1 A1 c1 R)):=D1.below (kj (q:=q) (by omega) bk).below;have B1:=ag;have D1:=ae;go_wp2_with fail;refine td ((C k (js k)).e aU cb aF (by have h1:=av.out;have h2:=bS;have h3:=bR;omega)) I aO av ?_;clear I;intro ay aS bZ b9 b2 bD I aY be b6 b7;obtain⟨⟨k2,o2,t2,z2,s2,A2,c2,ab⟩,bp,rfl,D2⟩:=b2;have bs:(Tx.mk k2 o2 t2 z2 s2 A2 c2 ab).val=.agg #[k2,o2,t2,z2,s2,(A2,ab,c2)]:=rfl;rw[bs];have D2:=iB (D2.sub (iS (by have h1:=lZ aO;exact h1) ay));have bp:=iB bp;have ag:Hid (qP ay rv (.mk k1 o1 t1 z1 s1 A1 c1 R)):=iB (kq B1 aH b6);have ae:Hid (RX (old w0 ay) (.mk k1 o1 t1 z1 s1 A1 c1 R)):=D1.below (kj (q:=q) (by omega) b6).below;have B1:=ag;have D1:=ae;obtain⟨rz,bt⟩:=jt ay.heap.size;have cN:r<rz:=by have h1:=lZ b7;omega
        have bG:rz≠q:=by omega
        obtain⟨bl,bM,B2,cB,cx,ba,c4⟩:∃v,ay.alloc (.cells #[k2,o2,t2,z2,s2,(A2,ab,c2)] 73)=v/\Hid (qP v rz (.mk k2 o2 t2 z2 s2 A2 c2 ab))/\Hid (Rd B q A c L en eA ec el v b9)/\ik (iz q w0) (iz q v)/\Hid (RX (old w0 v) (.mk k2 o2 t2 z2 s2 A2 c2 ab))/\Hid (rz+1=v):=⟨_,rfl,by rw[<- bt];exact jC ..,bD.after zc,ij b7 (im zc),D2.below (jK zc).below,by (show _=_;rw[iH,bt])⟩;have bJ:=aY;replace D2:=ba;clear ba;have b1:=iB bM;have bj:ik (iz q ay) (iz q bl):=by rw[<- b1.out];exact im zc
        have ag:Hid (qP bl rv (.mk k1 o1 t1 z1 s1 A1 c1 R)):=iB (kq B1 aH bj);have ae:Hid (RX (old w0 bl) (.mk k1 o1 t1 z1 s1 A1 c1 R)):=D1.below (kj (q:=q) (by omega) bj).below;have B1:=ag;have D1:=ae;go_wp2_with fail;try rw[bt]
        try rw[b1.out]
        try rw[c4.out]
        go_wp2_with fail;refine td (jH cB [⟨#[101,108,115,101]⟩] (by decide)) I cx bJ ?_;clear I;intro ak cI cK b0 bO cA I bc bd aQ bB;subst bO;have ag:Hid (qP ak rv (.mk k1 o1 t1 z1 s1 A1 c1 R)):=iB (kq B1 aH aQ);have ae:Hid (RX (old w0 ak) (.mk k1 o1 t1 z1 s1 A1 c1 R)):=D1.below (kj (q:=q) (by omega) aQ).below;have B1:=ag;have D1:=ae;have cE:Hid (qP ak rz (.mk k2 o2 t2 z2 s2 A2 c2 ab)):=iB (kq B2 bG aQ);have ba:Hid (RX (old w0 ak) (.mk k2 o2 t2 z2 s2 A2 c2 ab)):=D2.below (kj (q:=q) (by omega) aQ).below;have B2:=cE;have D2:=ba;have HC:Hid (∀U,ik ak U->Calls prog 71 #[.pointer q] U (pk B q A c L en eA ec el U b0 (jg el k (L.drop b0)) (VX U))):=fun U hU=>(C k (js k)).e U b0 (cA.after hU) (by have h1:=bc.out;have h2:=bd;have h3:=be;have h4:=bR;have h5:=bd;omega)
        have I:Hid (X=(jg el k (L.drop b0)).bind fun (b,r)=>some (.mk 4 0 0 0 ⟨#[]⟩ [x9,aS,b],r)):=I;generalize dh:jg el k (L.drop b0)=Y at HC I;have HK:Hid (∀U,ik (iz q ak) (iz q U)->((U.cell? rv=k1/\U.cell? (rv,1)=o1/\U.cell? (rv,2)=t1/\U.cell? (rv,3)=z1/\U.cell? (rv,4)=s1/\U.cell? (rv,5)=(A1,R,c1))/\(U.cell? rz=k2/\U.cell? (rz,1)=o2/\U.cell? (rz,2)=t2/\U.cell? (rz,3)=z2/\U.cell? (rz,4)=s2/\U.cell? (rz,5)=(A2,ab,c2)))):=fun U hU=>⟨Iy (kq B1 aH hU),Iy (kq B2 bG hU)⟩
        have dj:=jo B1;have di:=jo B2;go_wp2_with fail;refine jm (fun U:yM=>(U.cell? rv=k1/\U.cell? (rv,1)=o1/\U.cell? (rv,2)=t1/\U.cell? (rv,3)=z1/\U.cell? (rv,4)=s1/\U.cell? (rv,5)=(A1,R,c1))/\(U.cell? rz=k2/\U.cell? (rz,1)=o2/\U.cell? (rz,2)=t2/\U.cell? (rz,3)=z2/\U.cell? (rz,4)=s2/\U.cell? (rz,5)=(A2,ab,c2))) [4,5,6] (by kernel_rfl) ?_;have a_:(fun U:yM=>(U.cell? rv=k1/\U.cell? (rv,1)=o1/\U.cell? (rv,2)=t1/\U.cell? (rv,3)=z1/\U.cell? (rv,4)=s1/\U.cell? (rv,5)=(A1,R,c1))/\(U.cell? rz=k2/\U.cell? (rz,1)=o2/\U.cell? (rz,2)=t2/\U.cell? (rz,3)=z2/\U.cell? (rz,4)=s2/\U.cell? (rz,5)=(A2,ab,c2))) ak.drew:=HK _ zc;refine wT 0 [4,5,6] (.agg #[k1,o1,t1,z1,s1,(A1,R,c1)]) a_ ?_;try simp only[Act.put,oF,oB,oq]
        refine wT 1 [4,5,6] (.agg #[k2,o2,t2,z2,s2,(A2,ab,c2)]) a_ ?_;try simp only[Act.put,oF,oB,oq]
        refine wT 2 [3,4,5,6] (.pointer q) a_ ?_;try simp only[Act.put,oF,oB,oq]
        refine lH 3 ?_;go_simp;go_at_call 71;refine (HC _ zc).mono ?_;rintro e wQ ⟨aZ,hY⟩;have aM:ik (iz q ak) (iz q wQ):=ij (im zc) aZ;cases Y with
        |none=>
         obtain⟨a,er,rfl,he⟩:=hY;unfold oD;exact⟨rfl,kf I (ij (im aw0) (ij bB aM)) (jz a er he)⟩
        |some y=>
        obtain⟨xQ,rQ⟩:=y;obtain⟨vQ,iQ,rfl,cj,RQ,cm,cq⟩:=hY;subst cm;obtain⟨⟨kQ,oQ,tQ,zQ,sQ,AQ,cQ,ax⟩,cc,rfl,DQ⟩:=cj;have br:(Tx.mk kQ oQ tQ zQ sQ AQ cQ ax).val=.agg #[kQ,oQ,tQ,zQ,sQ,(AQ,ax,cQ)]:=rfl;rw[br]
        (first | refine⟨HK _ aM,?_⟩ | refine⟨fun _=>HK _ aM,?_⟩)
        obtain⟨g,hg⟩:=jt wQ.heap.size;have bX:=ij bB aM;have ct:w0.heap.size<=g:=by have h1:=lZ bX;omega
        obtain⟨wZ,cd,cy,bV,bH,cv⟩:∃v,wQ.alloc (.cells #[k1,o1,t1,z1,s1,(A1,R,c1),k2,o2,t2,z2,s2,(A2,ab,c2),kQ,oQ,tQ,zQ,sQ,(AQ,ax,cQ)] 73)=v/\Hid (Rd B q A c L en eA ec el v iQ)/\ik (iz q w0) (iz q v)/\ik wQ v/\iP v g 73 #[k1,o1,t1,z1,s1,(A1,R,c1),k2,o2,t2,z2,s2,(A2,ab,c2),kQ,oQ,tQ,zQ,sQ,(AQ,ax,cQ)]:=⟨_,rfl,iB (RQ.after zc),ij bX (im zc),zc,by rw[<- hg];exact jC ..⟩;have bW:ik (iz q ak) (iz q wZ):=ij aM (im bH);have E1:RX (old w0 wZ) (.mk k1 o1 t1 z1 s1 A1 c1 R):=D1.below (kj (q:=q) (by omega) bW).below;have E2:RX (old w0 wZ) (.mk k2 o2 t2 z2 s2 A2 c2 ab):=D2.below (kj (q:=q) (by omega) bW).below;have EQ:RX (old w0 wZ) (.mk kQ oQ tQ zQ sQ AQ cQ ax):=(DQ.sub (iS (by show w0.heap.size<=ak.drew.heap.size;have h1:=lZ bB;exact h1) wQ)).below (jK bH).below;have DY:RX (old w0 wZ) (.mk 4 0 0 0 ⟨#[]⟩ (some g) 3 [.mk k1 o1 t1 z1 s1 A1 c1 R,.mk k2 o2 t2 z2 s2 A2 c2 ab,.mk kQ oQ tQ zQ sQ AQ cQ ax]):=xS (ys:=[.mk k1 o1 t1 z1 s1 A1 c1 R,.mk k2 o2 t2 z2 s2 A2 c2 ab,.mk kQ oQ tQ zQ sQ AQ cQ ax]) (yV cv ct) (by intro y hy;simp only[la]at hy;rcases hy with rfl | rfl | rfl;exact E1;exact E2;exact EQ) (by simp) 4 0 0 0 ⟨#[]⟩ (by decide);have J:qP wZ r oE:=lM (HB.after (k:=bV)) a';obtain⟨n0,n1,n2,n3,n4,n5⟩:=J.cells;have nl:=jo J;obtain⟨au,ar,aq,ao,an,al⟩:=jU J
        obtain⟨W,hW,EW,aa,aW,oW,sW⟩:=jY J cy a' (ij (im aw0) bV) (lI hr) (by omega) (.mk 4 0 0 0 ⟨#[]⟩ (some g) 3 [.mk k1 o1 t1 z1 s1 A1 c1 R,.mk k2 o2 t2 z2 s2 A2 c2 ab,.mk kQ oQ tQ zQ sQ AQ cQ ax]);simp only[txs,xT,Nat.reduceAdd]at hW;have bK:=iB cd;refine lH 4 ?_;go_simp;try rw[hg]
        try rw[bK.out]
        try refine kL ?_
        refine lH 5 ?_;go_simp;try refine kL ?_
        have bz:=iB hW;refine lH 6 ?_;go_simp;try refine kL ?_
        try rw[bz.out]
        refine iT (by kernel_rfl) ?_ _;go_wp2_with fail;obtain⟨u0,u1,u2,u3,u4,u5⟩:=EW.cells;simp only[txs,xT,Nat.reduceAdd]at u0 u1 u2 u3 u4 u5;exact jR (v:=.agg #[.int .i64 4,JX,JX,JX,.string ⟨#[]⟩,.slice g 3 3]) (by simp[results,results170,go_sem,u0,u1,u2,u3,u4,u5]) rfl (lN (x:=.mk 4 0 0 0 ⟨#[]⟩ [x9,aS,xQ]) (show X=some (.mk 4 0 0 0 ⟨#[]⟩ [x9,aS,xQ],L.drop iQ) from I) aW ⟨.mk 4 0 0 0 ⟨#[]⟩ (some g) 3 [.mk k1 o1 t1 z1 s1 A1 c1 R,.mk k2 o2 t2 z2 s2 A2 c2 ab,.mk kQ oQ tQ zQ sQ AQ cQ ax],by (rw[qp];simp only[mJ,tW];rw[aj.out,bp.out,cc]),rfl,((DY).below (oW w0.heap.size (by omega)).below).sub (iS (by omega) W)⟩ aa rfl (jW bc cq))
       clear I;intro w7 R7 I _ a7 bm cZ;rw[tail_drop]at I;have cn:=R7.le;go_wp2_with fail;refine td ((C k (js k)).e w7 (o+1) R7 (by omega)) I a7 bm ?_;clear I;intro w8 x8 v8 i8 cl R8 I aV df dm a8;obtain⟨⟨k1,o1,t1,z1,s1,A1,c1,R⟩,aj,rfl,D1⟩:=cl;have ad:(Tx.mk k1 o1 t1 z1 s1 A1 c1 R).val=.agg #[k1,o1,t1,z1,s1,(A1,R,c1)]:=rfl;rw[ad];have D1:=iB (D1.sub (iS (by have h1:=lZ a7;exact h1) w8));have aj:=iB aj;obtain⟨rv,aJ⟩:=jt w8.heap.size;have c6:r<rv:=by have h1:=lZ a8;omega
       have aH:rv≠q:=by omega
       obtain⟨w9,cf,B1,R9,a9,ae,s9⟩:∃v,w8.alloc (.cells #[k1,o1,t1,z1,s1,(A1,R,c1)] 73)=v/\Hid (qP v rv (.mk k1 o1 t1 z1 s1 A1 c1 R))/\Hid (Rd B q A c L en eA ec el v i8)/\ik (iz q w0) (iz q v)/\Hid (RX (old w0 v) (.mk k1 o1 t1 z1 s1 A1 c1 R))/\Hid (rv+1=v):=⟨_,rfl,by rw[<- aJ];exact jC ..,R8.after zc,ij a8 (im zc),D1.below (jK zc).below,by (show _=_;rw[iH,aJ])⟩;have aI:=aV;replace D1:=ae;clear ae;have bL:=iB cf;go_wp2_with fail;try rw[aJ]
       try rw[bL.out]
       try rw[s9.out]
       go_wp2_with fail;refine td (jH R9 [⟨#[41]⟩] (by decide)) I a9 aI ?_;clear I;intro aC aT bF i10 aD aG I ai bf aR aB;subst aD;have ag:Hid (qP aC rv (.mk k1 o1 t1 z1 s1 A1 c1 R)):=iB (kq B1 aH aR);have ae:Hid (RX (old w0 aC) (.mk k1 o1 t1 z1 s1 A1 c1 R)):=D1.below (kj (q:=q) (by omega) aR).below;have B1:=ag;have D1:=ae;have ag:=B1.out;obtain⟨m0,m1,m2,m3,m4,m5⟩:=ag.cells;have ml:=jo ag;obtain⟨cW,cV,cU,cT,cS,cR⟩:=jU ag;simp only[txs]at m0 m1 m2 m3 m4 m5;have J:qP aC r oE:=lM (HB.after (k:=aB)) a';exact rx_ J aG a' aB aw0 hr ai I D1 aj
      clear I;intro w6 R6 I _ a6 bn d_;rw[tail_drop]at I;have J:qP w6 r oE:=lM (HB.after (k:=a6)) a';obtain⟨n0,n1,n2,n3,n4,n5⟩:=J.cells;have nl:=jo J;obtain⟨au,ar,aq,ao,an,al⟩:=jU J;have E0:RX (old w0 w6) (.mk 1 0 1 0 ⟨#[]⟩ none 0 []):=yS 1 0 1 0 ⟨#[]⟩ (by decide);have bA:(Tx.mk 1 0 1 0 ⟨#[]⟩ none 0 []).er=.mk 1 0 1 0 ⟨#[]⟩ []:=by rw[qp];rfl
      have aP:Hid (X=some (.mk 1 0 1 0 ⟨#[]⟩ [],L.drop (o+1))):=I;exact rx_ J R6 a' a6 aw0 hr bn (show X=some (.mk 1 0 1 0 ⟨#[]⟩ [],L.drop (o+1)) from aP) E0 bA
     clear I;intro w5 R5 I _ a5 bo d';rw[tail_drop]at I;have J:qP w5 r oE:=lM (HB.after (k:=a5)) a';obtain⟨n0,n1,n2,n3,n4,n5⟩:=J.cells;have nl:=jo J;obtain⟨au,ar,aq,ao,an,al⟩:=jU J;have E0:RX (old w0 w5) (.mk 1 0 1 1 ⟨#[]⟩ none 0 []):=yS 1 0 1 1 ⟨#[]⟩ (by decide);have bA:(Tx.mk 1 0 1 1 ⟨#[]⟩ none 0 []).er=.mk 1 0 1 1 ⟨#[]⟩ []:=by rw[qp];rfl
     have aP:Hid (X=some (.mk 1 0 1 1 ⟨#[]⟩ [],L.drop (o+1))):=I;exact rx_ J R5 a' a5 aw0 hr bo (show X=some (.mk 1 0 1 1 ⟨#[]⟩ [],L.drop (o+1)) from aP) E0 bA
    have I:=iB (I.trans (iG HZ));have aK:=HZ.out;have hj:=rX aK;have b4:=R4.few;obtain⟨c0,c1,b_,c3,f2,l0⟩:=R4.fields;obtain⟨af,aw,ah,aA⟩:∃v,w4.setCell (q,2) (.int .i64 ((o:Int)+1))=v/\Hid (Rd B q A c L en eA ec el v (o+1))/\ik (iz q w0) (iz q v):=⟨_,rfl,R4.move (j:=o+1) hj,by rw[jJ];exact a4⟩;have aX:Hid (o<=o+1):=uR _;obtain⟨d0,d1,d2,d3,g2,m0⟩:=ah.fields;obtain⟨b,pp,kd,t,n,hA,hl,hy,ht,hn,t0,t1,t2⟩:=ah.at_ (j:=o) hj;have b5:Cb (L.drop o)=t:=Jw hy;have I:Hid (X=some (.mk 11 0 0 0 t [],L.drop (o+1))):=by (have h9:X=some (.mk 11 0 0 0 (Cb (L.drop o)) [],(L.drop o).tail):=I;rw[tail_drop,b5]at h9;exact h9)
    subst hA;have J:qP af r oE:=lM (HB.after (k:=aA)) a';obtain⟨n0,n1,n2,n3,n4,n5⟩:=J.cells;have nl:=jo J;obtain⟨au,ar,aq,ao,an,al⟩:=jU J;obtain⟨W0,bU,cD,cz,cw,c7,cM⟩:=jY J ah a' (ij (im aw0) aA) (lI hr) (by omega) (.mk 11 0 0 0 t none 0 []);simp only[txs,xT,Nat.reduceAdd]at bU;have bT:=iB bU;obtain⟨W,hW,EW,aa,aW,oW⟩:∃v,W0.drew=v/\qP v r (.mk 11 0 0 0 t none 0 [])/\Rd B q _ c L en eA ec el v (o+1)/\ik (iz q w) (iz q v)/\(∀n,r<n->ik (old n af) (old n v)):=⟨_,rfl,mZ (w:=W0) cD,cz.after zc,ij cw (im zc),fun n hn=>ij (c7 n hn) (jK zc)⟩;have bz:=iB hW;have cg:IntKind.i64.wrap ((o:Int)+1-1)=(o:Int):=by rw[show (o:Int)+1-1=(o:Int) by omega];exact IntWalk.i64_in _ (by omega)
    have db:IntKind.i64.wrap (o:Int)=(o:Int):=IntWalk.i64_in _ (by omega);have bQ:(o:Int)<(L:Int):=by omega
    go_wp2_with fail;try rw[aw]
    have HS:Hid (∀U,ik af U->(U.cell? q=some (.slice (some ⟨b,pp,none⟩) L.length c)/\U.cell? ⟨q,2,none⟩=some (.int .i64 ((o+1:Nat):Int))/\U.cell? ⟨b,pp+o*3+1,none⟩=some (.string t))):=fun U hU=>⟨(hU.below.cell (p:=⟨q,0,none⟩) m0.le).trans d0,(hU.below.cell (p:=⟨q,2,none⟩) m0.le).trans d2,(hU.below.cell (p:=⟨b,pp+o*3+1,none⟩) hl.le).trans t1⟩
    refine jm (fun U:yM=>U.cell? q=some (.slice (b,pp) L.length c)/\U.cell? (q,2)=((o+1:Nat):Int)/\U.cell? (b,pp+o*3+1)=t) [13] (by kernel_rfl) ?_;have a_:(fun U:yM=>U.cell? q=some (.slice (b,pp) L.length c)/\U.cell? (q,2)=((o+1:Nat):Int)/\U.cell? (b,pp+o*3+1)=t) af.drew:=HS _ zc;refine wT 0 [13] (.pointer q) a_ ?_;try simp only[Act.put,oF,oB,oq]
    refine wT 1 [13] (.pointer q) a_ ?_;try simp only[Act.put,oF,oB,oq]
    refine wT 2 [13] (.pointer q) a_ ?_;try simp only[Act.put,oF,oB,oq]
    refine wT 3 [13] (.slice (b,pp) L.length c) a_ ?_;try simp only[Act.put,oF,oB,oq]
    refine wT 4 [13] (.pointer q) a_ ?_;try simp only[Act.put,oF,oB,oq]
    refine wT 5 [13] (.pointer q) a_ ?_;try simp only[Act.put,oF,oB,oq]
    refine wT 6 [13] (.pointer (q,2)) a_ ?_;try simp only[Act.put,oF,oB,oq]
    refine wT 7 [13] (.int .i64 ((o+1:Nat):Int)) a_ ?_;try simp only[Act.put,oF,oB,oq]
    refine wT 8 [13] (.int .i64 (o:Nat)) a_ ?_;try simp only[Act.put,oF,oB,oq]
    refine wT 9 [13] (.pointer (b,pp+o*3)) a_ ?_;try simp only[Act.put,oF,oB,oq]
    refine wT 10 [13] (.pointer (b,pp+o*3+1)) a_ ?_;try simp only[Act.put,oF,oB,oq]
    refine wT 11 [13] (.string t) a_ ?_;try simp only[Act.put,oF,oB,oq]
    refine wT 12 [13] (.agg #[.int .i64 11,JX,JX,JX,t,()]) a_ ?_;try simp only[Act.put,oF,oB,oq]
    refine lH 13 ?_;go_simp;try refine kL ?_
    try rw[bT.out]
    try rw[bz.out]
    refine iT (by kernel_rfl) ?_ _;go_wp2_with fail;have E0:∀v,RX (old w0 v) (.mk 11 0 0 0 t none 0 []):=fun v=>yS 11 0 0 0 t ht
    obtain⟨u0,u1,u2,u3,u4,u5⟩:=EW.cells;simp only[txs,xT,Nat.reduceAdd]at u0 u1 u2 u3 u4 u5;exact jR (v:=.agg #[.int .i64 11,JX,JX,JX,t,()]) (by simp[results,results170,go_sem,u0,u1,u2,u3,u4,u5]) rfl (lN (x:=.mk 11 0 0 0 t []) (show X=some (.mk 11 0 0 0 t [],L.drop (o+1)) from I) aW ⟨.mk 11 0 0 0 t none 0 [],by rw[qp];rfl,rfl,((E0 _).below (oW w0 (by omega)).below).sub (iS (by omega) W)⟩ aa rfl (aX))
   have I:=iB (I.trans (iG HZ));have aK:=HZ.out;have hj:=rX aK;have b4:=R3.few;obtain⟨c0,c1,b_,c3,f2,l0⟩:=R3.fields;obtain⟨b,pp,kd,t,n,hA,hl,hy,ht,hn,t0,t1,t2⟩:=R3.at_ (j:=o) hj;have bx:kd=2:=by have h1:=Ea (k:=2) hy;rw[aK]at h1;simpa using h1.symm
   have az:=R3.num _ (om hy) bx;have b5:Cb (L.drop o)=t:=Jw hy;have HN:Hid (∀U,Calls prog 177 #[t] U fun e w'=>e=.returned (.int .i64 (rY t))/\ik U w'):=fun U=>Cg t az.1 az.2.2 U
   have bu:0<=rY t/\rY t<100000:=JZ az.1 az.2.2;have I:Hid (X=if 32767<rY t then none else some (.mk 1 0 2 (rY t) ⟨#[]⟩ [],L.drop (o+1))):=by (have h9:X=if 32767<rY (Cb (L.drop o)) then none else some (.mk 1 0 2 (rY (Cb (L.drop o))) ⟨#[]⟩ [],(L.drop o).tail):=I;rw[tail_drop,b5]at h9;exact h9)
   subst hA;obtain⟨N,hN⟩:=jt (rY t);rw[hN]at HN I bu;have bQ:(o:Int)<(L:Int):=by omega
   go_wp2_with fail;refine iE (by kernel_rfl) (by kernel_rfl) ?_;repeat (go_big_quiet_step ((go_at_call 177;exact mR ((HN _).mono fun e w' h=>⟨h.1,jP _ _ (h:=h.2)⟩))))
   refine wpQuiet_nil ?_;rintro _ ⟨y_,rfl⟩;obtain⟨af,aw,aM⟩:∃v,World.more w3 y_=v/\ik w3 v:=⟨_,rfl,zc⟩;have ah:=iB (R3.after aM);have aA:=ij a3 (im aM);try rw[aw]
   obtain⟨c0,c1,b_,c3,f2,l0⟩:=ah.fields;by_cases bg:32767<N
   ·skip
    have bE:=iB (I.trans (iG bg));have HF:Hid (∀U,ik af U->Calls prog 37 #[.pointer (some q),(o:Nat),.int .i64 14] U fun e w'=>(∃a:Int,e=oD a 14)/\ik U w'):=fun U hU=>nj (ah.after hU) (o:Int) (by omega) 14
    go_wp2_with fail;try rw[aw]
    refine (HF _ (iq _)).mono ?_;rintro e w21 ⟨⟨a,rfl⟩,aL⟩;unfold oD;go_wp2;exact⟨rfl,kf bE (ij (im aw0) (ij aA (im aL))) (jz a 14 (by decide))⟩
   have cC:=iB (I.trans (iV bg));obtain⟨w21,cF,bC,aL⟩:∃v,af.setCell (q,2) (.int .i64 ((o:Int)+1))=v/\Hid (Rd B q _ c L en eA ec el v (o+1))/\ik (iz q w0) (iz q v):=⟨_,rfl,ah.move (j:=o+1) hj,by rw[jJ];exact aA⟩;have J:qP w21 r oE:=lM (HB.after (k:=aL)) a';obtain⟨n0,n1,n2,n3,n4,n5⟩:=J.cells;have nl:=jo J;obtain⟨au,ar,aq,ao,an,al⟩:=jU J;have E0:RX (old w0 w21) (.mk 1 0 2 N ⟨#[]⟩ none 0 []):=yS 1 0 2 N ⟨#[]⟩ (by decide);exact rx_ J bC a' aL aw0 hr (uR o) (show X=some (.mk 1 0 2 N ⟨#[]⟩ [],L.drop (o+1)) from cC) E0
  have I:=iB (I.trans (iG HZ));have bE:Hid (X=none):=I;have HF:=iB (nj R2 ((o:Int)+1) (by omega) 5);obtain⟨c0,c1,b_,c3,f2,l0⟩:=R2.fields;have b4:=R2.few;have cG:=R2.le;go_wp2_with fail;refine HF.mono ?_;rintro e af ⟨⟨a,rfl⟩,aA⟩;unfold oD;go_wp2;exact⟨rfl,kf bE (ij (im aw0) (ij a2 (im aA))) (jz a 5 (by decide))⟩
 have I:=iB (I.trans (iG HZ));have aK:=L7 HZ;have hj:=rX aK;have cp:o+2<=L:=hj;have b4:=R1.few;obtain⟨c0,c1,b_,c3,f2,l0⟩:=R1.fields;obtain⟨af,aw,ah,aA⟩:∃v,w1.setCell (q,2) (.int .i64 ((o:Int)+2))=v/\Hid (Rd B q A c L en eA ec el v (o+2))/\ik (iz q w0) (iz q v):=⟨_,rfl,R1.move (j:=o+2) cp,by rw[jJ];exact a1⟩;have aX:Hid (o<=o+2):=Nat.le_add_right _ _;obtain⟨d0,d1,d2,d3,g2,m0⟩:=ah.fields;obtain⟨b,pp,kd,t,n,hA,hl,hy,ht,hn,t0,t1,t2⟩:=ah.at_ (j:=o+1) hj;have bx:kd=2:=by have h1:=Ea (k:=2) hy;rw[aK]at h1;simpa using h1.symm
 have az:=ah.num _ (om hy) bx;have b5:Cb (L.drop (o+1))=t:=Jw hy;have HN:Hid (∀U,Calls prog 177 #[t] U fun e w'=>e=.returned (.int .i64 (rY t))/\ik U w'):=fun U=>Cg t az.1 az.2.2 U
 have bu:0<=rY t/\rY t<100000:=JZ az.1 az.2.2;have I:Hid (X=some (.mk 1 0 2 (-(rY t)) ⟨#[]⟩ [],L.drop (o+2))):=by (have h9:X=some (.mk 1 0 2 (-(rY (Cb (L.drop o).tail))) ⟨#[]⟩ [],(L.drop o).tail.tail):=I;rw[tail_drop,tail_drop,b5]at h9;exact h9)
 subst hA;obtain⟨N,hN⟩:=jt (rY t);rw[hN]at HN I bu;have da:IntKind.i64.wrap (-N)=-N:=IntWalk.i64_in _ (by omega);have cg:IntKind.i64.wrap ((o:Int)+2-1)=(o:Int)+1:=by rw[show (o:Int)+2-1=(o:Int)+1 by omega];exact IntWalk.i64_in _ (by omega)
 have bQ:(o:Int)+1<(L:Int):=by omega
 have de:(0:Int)<=(o:Int)+1:=by omega
 have dd:((o:Int)+1).toNat=o+1:=by omega
 go_wp2_with fail;try rw[aw]
 have HK:Hid (∀U,ik (iz q af) (iz q U)->U.cell? q=U.cell? q):=fun U hU=>rfl
 have HS:Hid (∀U,ik af U->(U.cell? q=some (.slice (some ⟨b,pp,none⟩) L.length c)/\U.cell? ⟨q,2,none⟩=some (.int .i64 ((o+2:Nat):Int))/\U.cell? ⟨b,pp+(o+1)*3+1,none⟩=some (.string t))):=fun U hU=>⟨(hU.below.cell (p:=⟨q,0,none⟩) m0.le).trans d0,(hU.below.cell (p:=⟨q,2,none⟩) m0.le).trans d2,(hU.below.cell (p:=⟨b,pp+(o+1)*3+1,none⟩) hl.le).trans t1⟩
 refine jm (fun U:yM=>U.cell? q=some (.slice (b,pp) L.length c)/\U.cell? (q,2)=((o+2:Nat):Int)/\U.cell? (b,pp+(o+1)*3+1)=t) [15] (by kernel_rfl) ?_;have a_:(fun U:yM=>U.cell? q=some (.slice (b,pp) L.length c)/\U.cell? (q,2)=((o+2:Nat):Int)/\U.cell? (b,pp+(o+1)*3+1)=t) af.drew:=HS _ zc;refine wT 0 [15] (.pointer q) a_ ?_;try simp only[Act.put,oF,oB,oq]
 refine wT 1 [15] (.pointer q) a_ ?_;try simp only[Act.put,oF,oB,oq]
 refine wT 2 [15] (.pointer q) a_ ?_;try simp only[Act.put,oF,oB,oq]
 refine wT 3 [15] (.slice (b,pp) L.length c) a_ ?_;try simp only[Act.put,oF,oB,oq]
 refine wT 4 [15] (.pointer q) a_ ?_;try simp only[Act.put,oF,oB,oq]
 refine wT 5 [15] (.pointer q) a_ ?_;try simp only[Act.put,oF,oB,oq]
 refine wT 6 [15] (.pointer (q,2)) a_ ?_;try simp only[Act.put,oF,oB,oq]
 refine wT 7 [15] (.int .i64 ((o+2:Nat):Int)) a_ ?_;try simp only[Act.put,oF,oB,oq]
 refine wT 8 [15] (.int .i64 ((o:Int)+1)) a_ ?_;try simp only[Act.put,oF,oB,oq]
 refine wT 9 [15] (.pointer (b,pp+(o+1)*3)) a_ ?_;try simp only[Act.put,oF,oB,oq]
 refine wT 10 [15] (.pointer (b,pp+(o+1)*3+1)) a_ ?_;try simp only[Act.put,oF,oB,oq]
 refine wT 11 [15] (.string t) a_ ?_;try simp only[Act.put,oF,oB,oq]
 refine lH 12 ?_;go_simp;go_at_call 177;refine (HN _).mono ?_;rintro e w21 ⟨rfl,aN⟩;have aE:ik af w21:=ij zc aN
 (first | refine⟨HS _ aE,?_⟩ | refine⟨fun _=>HS _ aE,?_⟩)
 have bC:=iB (ah.after aE);have aL:=ij aA (im aE);have J:qP w21 r oE:=lM (HB.after (k:=aL)) a';obtain⟨n0,n1,n2,n3,n4,n5⟩:=J.cells;have nl:=jo J;obtain⟨au,ar,aq,ao,an,al⟩:=jU J;obtain⟨W,hW,EW,aa,aW,oW,sW⟩:=jY J bC a' (ij (im aw0) aL) (lI hr) (by omega) (.mk 1 0 2 (-N) ⟨#[]⟩ none 0 []);simp only[txs,xT,Nat.reduceAdd]at hW;refine lH 13 ?_;go_simp
 (first | refine⟨HS _ aE,?_⟩ | refine⟨fun _=>HS _ aE,?_⟩)
 refine lH 14 ?_;go_simp
 (first | refine⟨HS _ aE,?_⟩ | refine⟨fun _=>HS _ aE,?_⟩)
 have hW:=iB hW;refine lH 15 ?_;go_simp;try refine kL ?_
 try rw[hW.out]
 refine iT (by kernel_rfl) ?_ _;go_wp2_with fail;have E0:RX (old w0.heap.size w21) (.mk 1 0 2 (-N) ⟨#[]⟩ none 0 []):=yS 1 0 2 (-N) ⟨#[]⟩ (by decide);obtain⟨u0,u1,u2,u3,u4,u5⟩:=EW.cells;simp only[txs,xT,Nat.reduceAdd]at u0 u1 u2 u3 u4 u5;exact jR (v:=.agg #[.int .i64 1,.int .i64 0,.int .i64 2,.int .i64 (-N),.string ⟨#[]⟩,.slice none 0 0]) (by simp[results,results170,go_sem,u0,u1,u2,u3,u4,u5]) rfl (lN (x:=.mk 1 0 2 (-N) ⟨#[]⟩ []) (show X=some (.mk 1 0 2 (-N) ⟨#[]⟩ [],L.drop (o+2)) from I) aW ⟨.mk 1 0 2 (-N) ⟨#[]⟩ none 0 [],by rw[qp];rfl,rfl,((E0).below (oW w0.heap.size iu).below).sub (iS iu W)⟩ aa rfl (aX))
theorem Pq (htag:∀u∈el,u.tags.l.length<=16) (hel:el.length<=1000):∀k,∀j≤k,CX B q A c L en eA ec el j:=by
 have zero:CX B q A c L en eA ec el 0:=
  ⟨fun w i _ h=>absurd h iu,fun w i n o _ h=>absurd h iu,fun w i _ h=>absurd h iu,fun w i _ h=>absurd h iu⟩
 intro k;induction k with
 |zero=>
  intro j I;obtain rfl:j=0:=iu;exact zero
 |succ k ih=>
 intro j I;by_cases h:j<=k
 ·exact ih j h
 obtain rfl:j=k+1:=iu;exact⟨fun w i R h=>LX (ih k (js k)) R h,fun w i n o R h=>I8 o ih R h,fun w i R h=>IK ih R h,fun w i R h=>EM htag hel ih R h⟩
theorem wA (htag:∀u∈el,u.tags.l.length<=16) (hel:el.length<=1000) (k:Nat) (h:Rd B q A c L en eA ec el w i) (hk:20*(L-i)+10<=k):Calls prog 71 #[.pointer q] w (pk B q A c L en eA ec el w i (jg el k (L.drop i)) (VX w)):=
 (Pq htag hel k k (js k)).e w i h hk
end
structure FZ where
 name:yB
 ty:Int
 clock:List sO
structure KD where
 name:yB
 tags:List yB
structure En where
 left:List yB
 right:Ex
structure Qb where
 cond:Ex
 dst:Int
 res:Bool
mutual
inductive F5 where
 |mk (name:yB) (locals:List FZ) (eqs:List En) (autos:List BU) (unl:List Qb) (unt:List Qb)
inductive BU where
 |mk (states:List F5)
end
structure D8 where
 name:yB
 ins:List FZ
 outs:List FZ
 locals:List FZ
 eqs:List En
 autos:List BU
 assume:List Ex
 ensure:List Ex
def iO.er (x:iO):FZ:=⟨x.name,x.ty,x.clock.l⟩
def iW.er (x:iW):KD:=⟨x.name,x.tags.l⟩
def oX.er (x:oX):En:=⟨x.left.l,x.right.er⟩
def ma.er (x:ma):Qb:=⟨x.cond.er,x.dst,x.res⟩
mutual
def StT.er:StT->F5
 |.mk n l e _ _ a u v=>.mk n (l.l.map iO.er) (e.l.map oX.er) (AuT.kv a) (u.l.map ma.er) (v.l.map ma.er)
def StT.kv:List StT->List F5
 |[]=>[]
 |x::l=>x.er::StT.kv l
def AuT.er:AuT->BU
 |.mk _ _ l=>.mk (StT.kv l)
def AuT.kv:List AuT->List BU
 |[]=>[]
 |x::l=>x.er::AuT.kv l
end
def nh.er (x:nh):D8:=⟨x.name,x.ins.l.map iO.er,x.outs.l.map iO.er,x.locals.l.map iO.er,x.eqs.l.map oX.er,x.autos.l.map AuT.er,x.assume.l.map Tx.er,x.ensure.l.map Tx.er⟩
def uv (s:yB):List iW->Nat->Option Nat
 |[],_=>none
 |u::l,j=>if u.name=s then some j else uv s l (j+1)
def pX (el:List iW):Nat->List sO->List Tk->Option (List sO×List Tk)
 |m,l,ts=>if jq ⟨#[119,104,101,110]⟩ ts then (match m with
   |0=>none
   |m+1=>(mD el ts.tail).bind fun (o,r)=>pX el m (l++[o]) r) else some (l,ts)
def Ma (el:List iW) (ts:List Tk):Option (Int×List Tk):=
 if jq ⟨#[98,111,111,108]⟩ ts then some (1,ts.tail) else if jq ⟨#[105,110,116]⟩ ts then some (2,ts.tail) else (pV ts).bind fun (s,r)=>match uv s el 0 with
  |some j=>some (3+(j:Int),r)
  |none=>none
def wG (el:List iW) (ts:List Tk):Option (FZ×List Tk):=
 (pV ts).bind fun (s,r)=>(iF [⟨#[58]⟩] r).bind fun (_,r)=>(Ma el r).bind fun (t,r)=>(pX el 4 [] r).bind fun (l,r)=>some (⟨s,t,l⟩,r)
def mv (el:List iW) (open_:Bool):Nat->List FZ->List Tk->Option (List FZ×List Tk)
 |0,_,_=>none
 |m+1,l,ts=>(wG el ts).bind fun (d,r)=>if !jq ⟨#[59]⟩ r||(open_&&!ju 1 r.tail) then some (l++[d],r) else mv el open_ m (l++[d]) r.tail
def oG (el:List iW) (ts:List Tk):Option (List FZ×List Tk):=
 if jq ⟨#[118,97,114]⟩ ts then (mv el true 256 [] ts.tail).bind fun (l,r)=>(iF [⟨#[59]⟩] r).bind fun (_,r)=>some (l,r) else some ([],ts)
def nR:Nat->List yB->List Tk->Option (List yB×List Tk)
 |0,_,_=>none
 |m+1,l,ts=>(pV ts).bind fun (s,r)=>if jq ⟨#[44]⟩ r then nR m (l++[s]) r.tail else some (l++[s],r)
def Lm (el:List iW) (k:Nat) (ts:List Tk):Option (En×List Tk):=
 (if jq ⟨#[40]⟩ ts then (nR 64 [] ts.tail).bind fun (l,r)=>(iF [⟨#[41]⟩] r).bind fun (_,r)=>some (l,r) else (pV ts).bind fun (s,r)=>some ([s],r)).bind fun (l,r)=>
 (iF [⟨#[61]⟩] r).bind fun (_,r)=>(jg el k r).bind fun (x,r)=>(iF [⟨#[59]⟩] r).bind fun (_,r)=>some (⟨l,x⟩,r)
structure wo where
 cond:Ex
 res:Bool
 to_:yB
def pD (el:List iW) (k:Nat) (wd:yB):Nat->List wo->List Tk->Option (List wo×List Tk)
 |m,l,ts=>if jq wd ts then (match m with
   |0=>none
   |m+1=>(jg el k ts.tail).bind fun (x,r)=>(if jq ⟨#[99,111,110,116,105,110,117,101]⟩ r then some (true,r.tail) else (iF [⟨#[116,104,101,110]⟩] r).bind fun (_,r)=>some (false,r)).bind fun (b,r)=>(pV r).bind fun (s,r)=>(iF [⟨#[59]⟩] r).bind fun (_,r)=>pD el k wd m (l++[⟨x,b,s⟩]) r) else some (l,ts)
structure Ci where
 name:yB
 locals:List FZ
 eqs:List En
 autos:List BU
 unl:List wo
 unt:List wo
def vM (s:yB):List yB->Nat->Option Nat
 |[],_=>none
 |u::l,j=>if u=s then some j else vM s l (j+1)
def yp (names:List yB) (x:wo):Option Qb:=(vM x.to_ names 0).map fun (j:Nat)=>⟨x.cond,(j:Int),x.res⟩
def wW (names:List yB) (x:Ci):Option F5:=(x.unl.mapM (yp names)).bind fun u=>(x.unt.mapM (yp names)).bind fun v=>some (.mk x.name x.locals x.eqs x.autos u v)
mutual
def mu (el:List iW):Nat->Nat->List En->List BU->List Tk->Option ((List En×List BU)×List Tk)
 |0,_,_,_,_=>none
 |k+1,m,es,as_,ts=>if jq ⟨#[97,117,116,111,109,97,116,111,110]⟩ ts then (if m=0\/8<=as_.length then none else (pq el k m [] ts.tail).bind fun (a,r)=>mu el k m es (as_++[a]) r)
  else if ju 1 ts||jq ⟨#[40]⟩ ts then (if 256<=es.length then none else (Lm el k ts).bind fun (x,r)=>mu el k m (es++[x]) as_ r)
  else some ((es,as_),ts)
def pq (el:List iW):Nat->Nat->List Ci->List Tk->Option (BU×List Tk)
 |0,_,_,_=>none
 |k+1,m,ss,ts=>if jq ⟨#[115,116,97,116,101]⟩ ts then (if 8<=ss.length then none else (pV ts.tail).bind fun (s,r)=>(oG el r).bind fun (lo,r)=>(pD el k ⟨#[117,110,108,101,115,115]⟩ 4 [] r).bind fun (u,r)=>(iF [⟨#[100,111]⟩] r).bind fun (_,r)=>(mu el k (m-1) [] [] r).bind fun (b,r)=>(pD el k ⟨#[117,110,116,105,108]⟩ 4 [] r).bind fun (v,r)=>(iF [⟨#[100,111,110,101]⟩] r).bind fun (_,r)=>pq el k m (ss++[⟨s,lo,b.1,b.2,u,v⟩]) r)
  else (iF [⟨#[101,110,100]⟩] ts).bind fun (_,r)=>(ss.mapM (wW (ss.map Ci.name))).bind fun l=>some (.mk l,r)
end
def ox (el:List iW) (k:Nat):Nat->List Ex->List Ex->List Tk->Option ((List Ex×List Ex)×List Tk)
 |0,as_,en,ts=>if jq ⟨#[97,115,115,117,109,101]⟩ ts||jq ⟨#[101,110,115,117,114,101]⟩ ts then none else some ((as_,en),ts)
 |f+1,as_,en,ts=>if jq ⟨#[97,115,115,117,109,101]⟩ ts then (if 8<=as_.length then none else (jg el k ts.tail).bind fun (x,r)=>(iF [⟨#[59]⟩] r).bind fun (_,r)=>ox el k f (as_++[x]) en r)
  else if jq ⟨#[101,110,115,117,114,101]⟩ ts then (if 8<=en.length then none else (jg el k ts.tail).bind fun (x,r)=>(iF [⟨#[59]⟩] r).bind fun (_,r)=>ox el k f as_ (en++[x]) r)
  else some ((as_,en),ts)
def uO (el:List iW) (k:Nat) (ts:List Tk):Option (D8×List Tk):=
 (pV ts).bind fun (s,r)=>(iF [⟨#[40]⟩] r).bind fun (_,r)=>(if jq ⟨#[41]⟩ r then some ([],r) else mv el false 64 [] r).bind fun (is,r)=>
 (iF [⟨#[41]⟩,⟨#[114,101,116,117,114,110,115]⟩,⟨#[40]⟩] r).bind fun (_,r)=>(mv el false 64 [] r).bind fun (os,r)=>(iF [⟨#[41]⟩] r).bind fun (_,r)=>(oG el r).bind fun (lo,r)=>
 (ox el k 17 [] [] r).bind fun (cl,r)=>(iF [⟨#[108,101,116]⟩] r).bind fun (_,r)=>(mu el k 3 [] [] r).bind fun (b,r)=>(iF [⟨#[116,101,108]⟩] r).bind fun (_,r)=>some (⟨s,is,os,lo,b.1,b.2,cl.1,cl.2⟩,r)
def qH:Nat->List yB->List Tk->Option (List yB×List Tk)
 |0,_,_=>none
 |m+1,l,ts=>(pV ts).bind fun (s,r)=>if jq ⟨#[124]⟩ r then qH m (l++[s]) r.tail else some (l++[s],r)
def mE:Nat->List KD->List Tk->Option (List KD×List Tk)
 |m,l,ts=>if jq ⟨#[116,121,112,101]⟩ ts then (match m with
   |0=>none
   |m+1=>(pV ts.tail).bind fun (s,r)=>(iF [⟨#[61]⟩] r).bind fun (_,r)=>(qH 16 [] r).bind fun (tg,r)=>(iF [⟨#[59]⟩] r).bind fun (_,r)=>mE m (l++[⟨s,tg⟩]) r) else some (l,ts)
def mQ (el:List iW) (k:Nat):Nat->List D8->List Tk->Option (List D8×List Tk)
 |m,l,ts=>if jq ⟨#[110,111,100,101]⟩ ts then (match m with
   |0=>none
   |m+1=>(uO el k ts.tail).bind fun (x,r)=>mQ el k m (l++[x]) r) else some (l,ts)
def FW {α:Type} (p:α->Bool):List α->Nat->Int
 |[],_=>-1
 |x::l,k=>if p x then (k:Int) else FW p l (k+1)
theorem Jk {α:Type} (p:α->Bool):∀{l:List α} {j:Nat} {x:α} (k:Nat),l[j]?=some x->(l.take j).any p=false->p x=true->FW p l k=((k+j:Nat):Int)
 |[],j,x,k,h,_,_=>by simp at h
 |a::l,0,x,k,h,_,hx=>by
  simp at h;subst h;rw[FW,iG hx];rfl
 |a::l,j+1,x,k,h,h0,hx=>by
  rw[sD,List.any_cons,Bool.or_eq_false_iff]at h0;rw[FW,iV (by rw[h0.1];decide),Jk p (k+1) (by simpa using h) h0.2 hx];congr 1;omega
theorem BX {α:Type} (p:α->Bool):∀(l:List α) (k:Nat),l.any p=false->FW p l k=-1
 |[],_,_=>rfl
 |a::l,k,h0=>by
  rw[List.any_cons,Bool.or_eq_false_iff]at h0;rw[FW,iV (by rw[h0.1];decide),BX p l (k+1) h0.2]
theorem G7 {α:Type} (p:α->Bool) {l:List α} {j:Nat} {x:α} (h:l[j]?=some x) (h0:(l.take j).any p=false) (hx:p x=false):(l.take (j+1)).any p=false:=by
 rw[List.take_add_one,h,List.any_append,h0];simp[hx]
theorem JM {α:Type} (p:α->Bool) {l:List α} {j:Nat} (hj:¬j<l) (h0:(l.take j).any p=false):l.any p=false:=by
 rwa [Dn iu]at h0
def qw (s:yB) (u:iW):Bool:=u.name.toList==s.toList
theorem J6 (s:yB):∀(l:List iW) (k:Nat),FW (qw s) l k=match uv s l k with | some j=>(j:Int) | none=>-1
 |[],k=>rfl
 |u::l,k=>by
  rw[FW,uv];by_cases h:u.name=s
  ·rw[iG h,iG (by unfold qw;rw[h];exact beq_self_eq_true _)]
  rw[iV h,iV (by unfold qw;simp only[beq_iff_eq];exact fun e=>h (toList_inj e)),J6 s l (k+1)]
theorem Ll {w0:yM} {gs:Nat} {s:yB} (k0:w0.cell? gs=s) (l0:Le (gs+1) w0) (nm:yB) (tA:zA) (tc:Nat) (tl:List yB) (w:yM) (hw:ik w0 w) :
  Calls prog 150 #[.agg #[nm,(tA,tl,tc)],.pointer (some gs)] w fun e w'=>e=.returned (.bool (qw s ⟨nm,⟨tA,tc,tl⟩⟩))/\∃y,w'=w.more y:=by
 have J:=(hw.below.cell (p:=gs) l0.le).trans k0;have I:Le (gs+1) w:=⟨jW l0.le hw.below.size⟩;obtain⟨q,j⟩:=jt ((nm.toList==s.toList));have o:Hid (qw s ⟨nm,⟨tA,tc,tl⟩⟩=q):=j;go_in;go_wp2;go_ret;exact⟨iK (by rw[o.out]),jP _ _⟩
theorem QM {w0:yM} {gs:Nat} {s:yB} (k0:w0.cell? gs=s) (l0:Le (gs+1) w0) {nA:zA} {nc:Nat} {nl:List iW} (hnd:ir 2 sM w0 ⟨nA,nc,nl⟩) (w:yM) (hw:ik w0 w) :
  Calls prog 149 #[(nA,nl,nc),.func (.func 150) #[] #[.pointer (some gs)]] w fun e w'=>e=.returned (.int .i64 (FW (qw s) nl 0))/\∃y,w'=w.more y:=by
 have HF:Hid (∀(nm:yB) (J:zA) (I:Nat) (o:List yB),∀U,ik w0 U->Calls prog 150 #[.agg #[nm,(J,o,I)],.pointer (some gs)] U fun e w'=>e=.returned (.bool (qw s ⟨nm,⟨J,I,o⟩⟩))/\∃y,w'=U.more y):=fun nm J I o U hU=>Ll k0 l0 nm J I o U hU
 have a_:=iy hnd;have a8:=hnd.len;simp only[]at a8;obtain⟨R,hR⟩:=jt (FW (qw s) nl 0);have HV:=iy hR;rw[hR];go_in;go_wp2_with fail;go_loopw [8] (fun i wr=>∃j:Nat,j<=nl.length/\i=.int .i64 (j:Nat)/\Hid ((nl.take j).any (qw s)=false)/\ik w wr) (fun i _=>nl.length-(intOf i).toNat)
 ·exact⟨0,iu,rfl,iy (by simp),iR⟩
 case round=>
 obtain⟨j,hj,rfl,HJ,ar⟩:=hrel;have a7:=ij hw ar;by_cases a6:j<nl
 ·have a1:(j:Int)<(nl:Int):=by omega
  obtain⟨b,p,yj,rfl,a',HY,hP⟩:=(a_.below lU a7.below).part (i:=j) a6;obtain⟨nm,⟨J,I,o⟩⟩:=yj;have z0:wr.cell? (b,p+j*2)=nm:=hP.c0;have z1:wr.cell? (b,p+j*2+1)=(J,o,I):=hP.c1;have HC:=iB (HF nm J I o wr a7);obtain⟨q,hq⟩:=jt (qw s ⟨nm,⟨J,I,o⟩⟩);rw[hq]at HC;have HQ:=iB hq;cases q with
  |true=>
   have HE:Hid (R=(j:Int)):=iB (by rw[<- HV.out];exact (Jk _ 0 HY HJ HQ).trans (by omega));go_wp2_with fail;refine HC.mono ?_;rintro e w' ⟨rfl,y,rfl⟩;go_wp2;go_ret;exact⟨by rw[HE.out];rfl,have:=ar;jP _ _⟩
  |false=>
  go_wp2_with fail;refine HC.mono ?_;rintro e w' ⟨rfl,y,rfl⟩;go_wp2;go_roundw
  case rel=>exact⟨j+1,iu,by go_num,iy (G7 _ HY HJ HQ),have:=ar;iR⟩
  case measure=>simp only[intOf];omega
 have a1:¬((j:Int)<(nl:Int)):=iu;have HE:Hid (R=-1):=iy (by rw[<- HV.out];exact BX _ nl 0 (JM _ a6 HJ));go_wp2;go_ret;exact⟨by rw[HE.out];rfl,have:=ar;jP _ _⟩
def Fm (r:Nat):Nat->zO->yM->yM
 |_,[],w=>w
 |j,v::l,w=>Fm r (j+1) l (w.setCell (r,j) v)
section
variable {B:yM} {q:Nat} {A:zA} {c:Nat} {L:List Tk} {en:Int} {eA:zA} {ec:Nat} {el:List iW} {w w0 w1 w':yM} {i:Nat}
theorem xz (r:Nat):∀(l:zO) (j:Nat) (w:yM),(Fm r j l w).heap.size=w.heap.size
 |[],_,_=>rfl
 |v::l,j,w=>by rw[Fm,xz r l];exact jc ..
theorem zi {r:Nat} {T:TypeId}:∀(l:zO) (j:Nat) (w:yM) (ph post:zO),ph=j->post.length=l->iP w r T (ph++post).toArray->iP (Fm r j l w) r T (ph++l).toArray
 |[],j,w,ph,post,h1,h2,h=>by
  have:post=[]:=B_ h2;subst this;exact h
 |v::l,j,w,ph,[],h1,h2,h=>by simp at h2
 |v::l,j,w,ph,u::post,h1,h2,h=>by
  rw[Fm];have h3:=Hg h j v;simp only[oF]at h3;have e:(ph++u::post).set j v=(ph++[v])++post:=by
   rw[List.set_append_right _ _ iu,h1,Nat.sub_self];simp
  rw[e]at h3;have:=zi l (j+1) _ (ph++[v]) post (by simp[h1]) (by simpa using h2) h3;simpa using this
theorem Bs {r:Nat} (hr:r≠q) (hB:B<=r):∀(l:zO) (j:Nat) (w:yM),Rd B q A c L en eA ec el w i->Rd B q A c L en eA ec el (Fm r j l w) i
 |[],_,_,h=>h
 |v::l,j,w,h=>Bs hr hB l (j+1) _ (h.set hr hB j v)
theorem Bz {r:Nat} (hr:w0<=r):∀(l:zO) (j:Nat) (w:yM),ik (iz q w0) (iz q w)->ik (iz q w0) (iz q (Fm r j l w))
 |[],_,_,h=>h
 |v::l,j,w,h=>Bz hr l (j+1) _ (iJ (k:=ko hr) (h:=h) j v)
theorem yZ {r n:Nat} (hr:r<n):∀(l:zO) (j:Nat) (w:yM),ik (old n w) (old n (Fm r j l w))
 |[],_,_=>iq _
 |v::l,j,w=>ij (j' hr w j v) (yZ hr l (j+1) _)
theorem tR {r:Nat} {T:TypeId} {zs:zO} (hB:iP w1 r T zs.toArray) (R:Rd B q A c L en eA ec el w1 i) (hrq:r≠q) (aw:ik (iz q w0) (iz q w1)) (hr:w0<=r) (hB0:B<=r) (l:zO) (hl:zs.length=l) :
  ∃W,Fm r 0 l w1=W/\iP W r T l.toArray/\Rd B q A c L en eA ec el W i/\ik (iz q w0) (iz q W)/\(∀n,r<n->ik (old n w1) (old n W))/\W.heap.size=w1:=
 ⟨_,rfl,by simpa using zi l 0 w1 [] zs rfl hl hB,Bs hrq hB0 l 0 w1 R,Bz hr l 0 w1 aw,fun n hn=>yZ hn l 0 w1,xz r l 0 w1⟩
end
def VG {α β:Type} (cells:α->zO) (ok:yM->α->Prop) (er:α->β) (n:Nat) (x:β) (w:yM) (v:Value):Prop:=∃y,er y=x/\v=.agg (cells y).toArray/\ok (old n w) y
def VL {α β:Type} (sz:Nat) (P:yM->Nat->Nat->α->Prop) (er:α->β) (n:Nat) (x:List β) (w:yM) (v:Value):Prop:=∃(A:zA) (c:Nat) (l:List α),v=.slice A l c/\l.map er=x/\ir sz P (old n w) ⟨A,c,l⟩
def CJ (y:iO):zO:=[y.name,y.ty,(y.clock.A,y.clock.l,y.clock.c)]
structure SF (w:yM) (y:iO):Prop where
 nm:y.name.size<=65536
 tb:y.ty<=2000
 cl:ir 3 KJ w y.clock
theorem qe:pH SF:=⟨fun W W' y hb h=>⟨h.nm,h.tb,h.cl.below qF hb⟩,fun W w y k h=>⟨h.nm,h.tb,h.cl.sub xb k⟩⟩
section
variable {B:yM} {q:Nat} {A:zA} {c:Nat} {L:List Tk} {en:Int} {eA:zA} {ec:Nat} {el:List iW} {w w0 w1:yM} {i:Nat}
section
variable {B:yM} {q:Nat} {A:zA} {c:Nat} {L:List Tk} {en:Int} {eA:zA} {ec:Nat} {el:List iW} {w w0 w1:yM} {i:Nat}
def mI (y:sO):zO:=[y.name,y.t,y.tag]
structure uf (w:yM) (y:sO):Prop where
 nm:y.name.size<=65536
 tb:y.t<=2000
theorem lY:pH uf:=⟨fun W W' y hb h=>⟨h.nm,h.tb⟩,fun W w y k h=>⟨h.nm,h.tb⟩⟩
theorem Jp:(prog.info? 178).map (fun i=>(i.zero,i.size,i.bytes))=some (some (.agg #[.string ⟨#[]⟩,JX,JX]),3,32):=by kernel_rfl
def Cn (el:List iW):Nat->List sO->List Tk->Option (List sO×List Tk)
 |0,_,_=>none
 |m+1,l,ts=>(mD el ts).bind fun (o,r)=>pX el m (l++[o]) r
theorem EI (el:List iW) (m:Nat) (l:List sO) (ts:List Tk):pX el m l ts=if jq ⟨#[119,104,101,110]⟩ ts then Cn el m l ts.tail else some (l,ts):=by
 cases m with
 |zero=>rw[pX];rfl
 |succ m=>rw[pX];rfl
theorem xE:∀{l:List yB} {ts r:List Tk} {u:Unit},iF l ts=some (u,r)->ts.length=r+l
 |[],ts,r,u,h=>by
  injection h with h
  injection h with h1 h2
  rw[h2];rfl
 |s::l,ts,r,u,h=>by
  rw[iF]at h;by_cases hc:jq s ts=true
  ·rw[iG hc]at h
   have h1:=xE h;have h2:=lT hc;rw[List.length_cons];omega
  rw[iV hc]at h;cases h
theorem Kd {s:yB}:∀{l:List iW} {k j:Nat},uv s l k=some j->k<=j/\j<k+l
 |[],k,j,h=>by cases h
 |u::l,k,j,h=>by
  rw[uv]at h;by_cases hc:u.name=s
  ·rw[iG hc]at h
   injection h with h
   rw[List.length_cons];omega
  rw[iV hc]at h;have:=Kd h;rw[List.length_cons];omega
theorem zp {ts r:List Tk} {o:sO} (htag:∀u∈el,u.tags.l.length<=16) (hel:el.length<=1000) (h:mD el ts=some (o,r)):o.t<=2000/\ts.length≥r+1:=by
 unfold mD at h;cases h1:l_ el ts with
 |none=>rw[h1]at h;cases h
 |some p=>
 obtain⟨⟨t,v⟩,r1⟩:=p;rw[h1]at h;have hs:=vu htag h1;have hl:=rW h1;simp only[Option.bind_some]at h;cases h2:iF [⟨#[40]⟩] r1 with
 |none=>rw[h2]at h;cases h
 |some p=>
 obtain⟨_,r2⟩:=p;rw[h2]at h;simp only[Option.bind_some]at h;cases h3:pV r2 with
 |none=>rw[h3]at h;cases h
 |some p=>
 obtain⟨s,r3⟩:=p;rw[h3]at h;simp only[Option.bind_some]at h;cases h4:iF [⟨#[41]⟩] r3 with
 |none=>rw[h4]at h;cases h
 |some p=>
 obtain⟨_,r4⟩:=p;rw[h4]at h;simp only[Option.bind_some]at h;injection h with h
 injection h with ha hb
 subst ha;have m1:=xE h2;have m2:=mm h3;have m3:=xE h4;subst hb;exact⟨by show t<=2000;omega,by omega⟩
theorem pTy_b {ts:List Tk} (h:jq ⟨#[98,111,111,108]⟩ ts=true):Ma el ts=some (1,ts.tail):=by rw[Ma,iG h]
theorem pTy_i {ts:List Tk} (h:jq ⟨#[98,111,111,108]⟩ ts=false) (h2:jq ⟨#[105,110,116]⟩ ts=true):Ma el ts=some (2,ts.tail):=by rw[Ma,iV (by rw[h];exact Bool.false_ne_true),iG h2]
theorem pTy_e {ts:List Tk} (h:jq ⟨#[98,111,111,108]⟩ ts=false) (h2:jq ⟨#[105,110,116]⟩ ts=false):Ma el ts=(pV ts).bind fun (s,r)=>match uv s el 0 with
  |some j=>some (3+(j:Int),r)
  |none=>none:=by rw[Ma,iV (by rw[h];exact Bool.false_ne_true),iV (by rw[h2];exact Bool.false_ne_true)]<;>rfl
theorem knO:Kna 75 178 3:=kn_of Jp underlying75 rfl iI iI
theorem hcO (y:sO) (u:Value) (h:u∈mI y):u.oneCell'=true:=by
 simp only[mI,List.mem_cons,List.not_mem_nil,or_false]at h;rcases h with rfl | rfl | rfl<;>rfl
theorem hvO (htag:∀u∈el,u.tags.l.length<=16) (hel:el.length<=1000) {W:yM} {ts:List Tk} (x:sO) (r:List Tk) (U:yM) (v:Value) (hY:mD el ts=some (x,r)) (h:v=.agg #[x.name,x.t,x.tag]/\x.name.size<=65536):∃y:sO,id y=x/\uf (old W U) y/\∀U':yM,(Instr.buildSlice 75 1 #[(0,v)]).run prog U'=.ok (.slice U' 1 1) (U'.alloc (.cells (mI y).toArray 178)):=by
 obtain⟨rfl,hs⟩:=h;exact⟨x,rfl,⟨hs,(zp htag hel hY).1⟩,fun U'=>by unfold mI;go_simp⟩
structure DcS (B:yM) (q:Nat) (A:zA) (c:Nat) (L:List Tk) (en:Int) (eA:zA) (ec:Nat) (el:List iW) (w0:yM) (ra:Nat) (s:yB) (i0:Nat) (W:yM) (i:Nat) (u:Int) (v:Value) (J:List sO):Prop where
 R:Rd B q A c L en eA ec el W i
 a:ik (iz q w0) (iz q W)
 b:iP W ra 77 #[s,u,v]
 o:kZ (ra+1) 178 3 mI uf (fun b=>decide (b<ra+1)) W v J
 le:i0<=i
theorem DcS.to {W W':yM} {i' i0 ra:Nat} {s:yB} {u:Int} {v:Value} {J:List sO} (h:DcS B q A c L en eA ec el w0 ra s i0 W i u v J) (hq:q<ra) (a:ik (iz q W) (iz q W')) (R:Rd B q A c L en eA ec el W' i') (hi:i<=i'):DcS B q A c L en eA ec el w0 ra s i0 W' i' u v J:=
 ⟨R,ij h.a a,kq h.b iu a,h.o.iv lY iu (by simp;omega) a,by have:=h.le;omega⟩
theorem DcS.ty {W:yM} {i0 ra:Nat} {s:yB} {u:Int} {v:Value} {J:List sO} (h:DcS B q A c L en eA ec el w0 ra s i0 W i u v J) (hq:q<ra) (z0:w0<=ra) (z1:B<=ra) (hv:v.ownBlock≠some ra) (t:Int):DcS B q A c L en eA ec el w0 ra s i0 (W.setCell (ra,1) (.int .i64 t)) i t v J:=
 ⟨h.R.set iu z1 _ _,iJ (k:=⟨by rw[iZ];exact z0⟩) (h:=h.a) _ _,h.b.jx 1 _,h.o.set lY (by simp) hv _ _,h.le⟩
theorem GI (htag:∀u∈el,u.tags.l.length<=16) (hel:el.length<=1000) (h:Rd B q A c L en eA ec el w i):Calls prog 115 #[.pointer q] w (pk B q A c L en eA ec el w i (wG el (L.drop i)) (VG CJ SF iO.er w)):=by
 obtain⟨X,hX⟩:=jt (wG el (L.drop i));rw[hX];obtain⟨i0,hi0⟩:=jt i;rw[hi0]at hX h⊢;have HX:Hid (X=(pV (L.drop i0)).bind fun (s,r)=>(iF [⟨#[58]⟩] r).bind fun (_,r)=>(Ma el r).bind fun (t,r)=>(pX el 4 [] r).bind fun (l,r)=>some (⟨s,t,l⟩,r)):=iy hX.symm;have hq:=h.blk.lt;have hbase:=h.base;obtain⟨r,hr⟩:=jt w.heap.size;obtain⟨w0,hw0,aw0,B0,R0,s0⟩:=Ls h hr (show r≠q by omega) #[.string ⟨#[]⟩,JX,()] 77;have HB:=iy B0;have z2:r+1=w0:=s0.symm;clear h B0 hX hi0;go_in;go_wp2_with fail;try rw[hr]
 try rw[hw0]
 clear hw0 s0;refine td (qb R0.out) HX (iq _) (iy (js i0)) ?_;clear HX;intro w1 s v1 i1 hv R1 HX le1 li1 b1 a1;obtain⟨rfl,hs⟩:=hv;have hS:=iy hs;clear hs R0;obtain⟨ra,hra⟩:=jt w1.heap.size;have z3:=lZ a1;have hqa:q<ra:=iu
 have z0:w0<=ra:=iu
 have z1:B<=ra:=iu
 obtain⟨w2,hw2,s2,h2⟩:∃z,w1.alloc (.cells #[s,JX,()] 77)=z/\Hid (ra+1=z)/\Hid (DcS B q A c L en eA ec el w0 ra s i0 z i1 0 (.slice none 0 0) []):=⟨_,rfl,by (show _=_;rw[iH,hra]),iy ⟨R1.out.after zc,ij a1 (im zc),by rw[<- hra];exact iP.new ..,.nil,le1.out⟩⟩;replace hw2:=iy hw2;clear R1 le1 b1 a1 z3;go_wp2_with fail;try rw[hra]
 try rw[hw2.out]
 try rw[s2.out]
 refine td (jH h2.out.R [⟨#[58]⟩] iI) HX h2.out.a (iy h2.out.le) ?_;clear HX hra;intro w3 x3 v3 i3 e3 R3 HX le3 li3 b3 a3;subst e3;have h3:=iy (h2.out.to hqa b3 R3.out li3);clear h2 R3 le3 b3 a3 hw2;go_upto_block 0 with fail
 go_cut [] (fun wx=>∃(i':Nat) (ty:Int) (W:yM),W=wx/\Hid (DcS B q A c L en eA ec el w0 ra s i0 W i' ty (.slice none 0 0) [])/\Hid (X=(pX el 4 [] (L.drop i')).bind fun (l,r)=>some (⟨s,ty,l⟩,r))/\ty<=2000)
 ·
  go_wp2_with fail;refine (tB h3.out.R ⟨#[98,111,111,108]⟩).mono ?_;rintro e w4 ⟨z,hz,rfl,RZ,aZ⟩;have h4:=iy (h3.out.to hqa aZ RZ (by split<;>omega));have HZ:=iy hz;clear h3 RZ aZ hz;cases z
  ·skip
   have h5:Hid (DcS B q A c L en eA ec el w0 ra s i0 w4 i3 0 (.slice none 0 0) []):=h4;clear h4;go_wp2_with fail;refine (tB h5.out.R ⟨#[105,110,116]⟩).mono ?_;rintro e w6 ⟨z,hz,rfl,RZ,aZ⟩;have h6:=iy (h5.out.to hqa aZ RZ (by split<;>omega));have HI:=iy hz;clear h5 RZ aZ hz;cases z
   ·skip
    have h7:Hid (DcS B q A c L en eA ec el w0 ra s i0 w6 i3 0 (.slice none 0 0) []):=h6;replace HX:=iy (HX.out.trans ((congrArg (fun z=>Option.bind z _) (pTy_e HZ.out HI.out)).trans (Option.bind_assoc ..)));clear h6;go_wp2_with fail;refine BC (qb h7.out.R) HX h7.out.a (iy h7.out.le) ?_;clear HX;intro w8 tn v8 i8 hY8 hv R8 HX le8 li8 b8 a8;obtain⟨rfl,hs⟩:=hv;have h8:=iy (h7.out.to hqa b8 R8.out li8);have hj0:(0:Int)<=(i8:Int)-1:=by have h1:=mm hY8;rw[List.length_drop,List.length_drop]at h1;have:=R8.out.le;omega
    obtain⟨b4,hb4⟩:=jt w8.heap.size;obtain⟨w9,hw9,k9,l9,h9⟩:∃z,w8.alloc (.cells #[tn] 9)=z/\z.cell? b4=tn/\Le (b4+1) z/\Hid (DcS B q A c L en eA ec el w0 ra s i0 z i8 0 (.slice none 0 0) []):=⟨_,rfl,by rw[<- hb4];exact ((iP.new w8 9 #[tn]).cell 0).trans rfl,by rw[<- hb4];exact (iP.new w8 9 #[tn]).is_le,iy (h8.out.to hqa (im zc) (R8.out.after zc) (js _))⟩;have HC:=iy (QM (w0:=w9) k9 l9 h9.out.R.enums w9 (iq _));have hix:=J6 tn el 0;have hjb:∀j,uv tn el 0=some j->j<el.length:=fun j hj=>by have:=Kd hj;omega
    generalize FW (qw tn) el 0=ix at HC hix;replace HX:Hid (X=(match uv tn el 0 with | some j=>some (3+(j:Int),L.drop i8) | none=>none:Option (Int×List Tk)).bind fun (t,r)=>(pX el 4 [] r).bind fun (l,r)=>some (⟨s,t,l⟩,r)):=HX;generalize uv tn el 0=O at hix HX hjb;obtain⟨c0,c1,c2',c3,f2,l0⟩:=h9.out.R.fields;clear h7 h8 R8 le8 b8 a8;go_wp2_with fail;try rw[hb4]
    try rw[hw9]
    refine HC.out.mono ?_;clear HC c0 c1 c2' c3 f2 l0;rintro e wa ⟨rfl,y_,hy_⟩;have aN:ik w9 wa:=ny ⟨y_,hy_⟩ zc;clear hy_;have ha:=iy (h9.out.to hqa (im aN) (h9.out.R.after aN) (js _));obtain⟨c0,c1,c2',c3,f2,l0⟩:=ha.out.R.fields;clear h9 k9 l9 hb4 hw9 aN;cases O with
    |none=>
     obtain rfl:ix=-1:=hix;have HXn:Hid (X=none):=HX;have HF:=iy (nj ha.out.R ((i8:Int)-1) hj0 6);have hlI:=ha.out.R.le;have hfew:=ha.out.R.few;go_wp2_with fail;refine HF.out.mono ?_;rintro e wb ⟨⟨a,rfl⟩,ab⟩;unfold oD;go_wp2_with fail;exact⟨rfl,pk.none HXn.out (ij (im aw0) (ij ha.out.a (im ab))) (jz a 6 iI)⟩
    |some j=>
    obtain rfl:ix=(j:Int):=hix;have hj:=hjb j rfl;have hjn:¬((j:Int)<0):=iu
    have h12:=iy (ha.out.ty hqa z0 z1 (by simp[Value.ownBlock]) (3+(j:Int)));obtain⟨m0,m1,m2⟩:=ha.out.b.c3;obtain⟨f0,f1,f3⟩:=iP.f3 ha.out.b;have ml:=ha.out.b.is_le;have hfew:=ha.out.R.few;clear ha c0 c1 c2' c3 f2 l0;go_wp2;go_meet;exact⟨_,_,_,rfl,h12,HX,by omega⟩
   skip;have h7:DcS B q A c L en eA ec el w0 ra s i0 w6 (i3+1) 0 (.slice none 0 0) []:=h6.out;have h12:=iy (h7.ty hqa z0 z1 (by simp[Value.ownBlock]) 2);obtain⟨m0,m1,m2⟩:=h7.b.c3;obtain⟨f0,f1,f3⟩:=iP.f3 h7.b;have ml:=h7.b.is_le;replace HX:=iy (HX.out.trans (congrArg (fun z=>Option.bind z _) (pTy_i HZ.out HI.out)));clear h6 h7;go_wp2;go_meet;exact⟨_,_,_,rfl,h12,(by rw[tail_drop]at HX;exact HX),by omega⟩
  skip;have h7:DcS B q A c L en eA ec el w0 ra s i0 w4 (i3+1) 0 (.slice none 0 0) []:=h4.out;have h12:=iy (h7.ty hqa z0 z1 (by simp[Value.ownBlock]) 1);obtain⟨m0,m1,m2⟩:=h7.b.c3;obtain⟨f0,f1,f3⟩:=iP.f3 h7.b;have ml:=h7.b.is_le;replace HX:=iy (HX.out.trans (congrArg (fun z=>Option.bind z _) (pTy_b HZ.out)));clear h4 h7;go_wp2;go_meet;exact⟨_,_,_,rfl,h12,(by rw[tail_drop]at HX;exact HX),by omega⟩
 case rest=>
 clear HX h3;obtain⟨i4,ty,w4,rfl,h4,HX,htb⟩:=hcut;go_wp2_with fail;go_loopw [] (fun wr=>∃(i' m:Nat) (v:Value) (J:List sO),Hid (J+m=4)/\Hid (X=(pX el m J (L.drop i')).bind fun (l,r)=>some (⟨s,ty,l⟩,r))/\Hid (DcS B q A c L en eA ec el w0 ra s i0 wr i' ty v J)) (fun wr=>L.length-lO wr q 2)
 ·exact⟨i4,4,_,[],iy rfl,HX,h4⟩
 case round=>
 clear HX h4;obtain⟨i5,m,v,J,hm,HX,h5⟩:=hrel;have d1:Hid (lO wr q 2=i5):=iy (je h5.out.R.fields.2.2.1);replace HX:Hid (X=(if jq ⟨#[119,104,101,110]⟩ (L.drop i5) then Cn el m J (L.drop i5).tail else some (J,L.drop i5)).bind fun (l,r)=>some (⟨s,ty,l⟩,r)):=iy (by rw[HX.out,EI]);have HC:=iy (nK h5.out.R ⟨#[119,104,101,110]⟩);obtain⟨z,hz⟩:=jt (jq ⟨#[119,104,101,110]⟩ (L.drop i5));rw[hz]at HC HX;replace hz:=iy hz;go_wp2_with fail;refine HC.out.mono ?_;clear HC;rintro e w6 ⟨rfl,aN⟩;have h6:=iy (h5.out.to hqa (im aN) (h5.out.R.after aN) (js _));clear h5 aN;cases z
 ·skip
  have HX9:Hid (X=some (⟨s,ty,J⟩,L.drop i5)):=HX;obtain⟨AF,cF,hvF,DF⟩:=h6.out.o.row (P:=KJ) lY (fun b hb=>decide_eq_true hb) (fun y=>rfl) (by have:=hm.out;omega) (fun W b o y hy hj=>⟨Int.le_trans hy.tb iI,hj 0 _ rfl,hj 1 _ rfl,hj 2 _ rfl,jW hy.nm iI⟩);subst hvF;obtain⟨m0,m1,m2⟩:=h6.out.b.c3;have ml:=h6.out.b.is_le;have hBr:=iP.Og (HB.out.after (k:=h6.out.a)) (show r≠q by omega);obtain⟨n0,n1,n2⟩:=hBr.c3;obtain⟨f0,f1,f3⟩:=iP.f3 hBr;have nl:=hBr.is_le;obtain⟨W,hW0,EW,RW,aW,oW,sW⟩:=tR (zs:=[.string ⟨#[]⟩,JX,()]) hBr h6.out.R iu (ij (im aw0) h6.out.a) (Nat.le_of_eq hr) iu [s,ty,(AF,J,cF)] rfl;have hW:(((w6.setCell r (.string s)).setCell (r,1) (.int .i64 ty)).setCell (r,2) (.slice AF J cF))=W:=hW0;have hle:=h6.out.le;clear hW0 h6;replace hW:=iy hW;go_wp2_with fail;try rw[hW.out]
  obtain⟨u0,u1,u2⟩:=EW.c3;exact bodyPost_ret (v:=.agg #[s,ty,(AF,J,cF)]) (by simp[results,results115,go_sem,u0,u1,u2]) rfl (pk.some HX9.out aW (⟨⟨s,ty,⟨AF,cF,J⟩⟩,rfl,rfl,⟨hS.out,htb,((DF.sub xb (iS iu _)).below qF (oW w0 iu).below).sub xb (iS iu _)⟩⟩) RW rfl hle)
 skip;replace HX:Hid (X=(Cn el m J (L.drop (i5+1))).bind fun (l,r)=>some (⟨s,ty,l⟩,r)):=iy (by rw[HX.out,iG rfl,tail_drop]);have lt6:=pI hz.out;obtain⟨A7,c7,hv7,_,_⟩:=ji h6.out.o.own;subst hv7;have HC:=iy (mF h6.out.R (J:Int) 4);obtain⟨m0,m1,m2⟩:=h6.out.b.c3;have ml:=h6.out.b.is_le;go_wp2_with fail;refine HC.out.mono ?_;clear HC m0 m1 m2 ml;rintro e w7 ⟨aN,hE⟩;have h7:=iy (h6.out.to hqa (im aN) (h6.out.R.after aN) (js _));clear h6;rcases hE with⟨hlt,rfl⟩ | ⟨hge,hf⟩
 ·skip
  obtain⟨m,rfl⟩:∃j,m=j+1:=⟨m-1,by have:=hm.out;omega⟩;replace HX:Hid (X=(mD el (L.drop (i5+1))).bind fun y=>((pX el m (J++[y.1]) y.2).bind fun (l,r)=>some (⟨s,ty,l⟩,r))):=iy (HX.out.trans (Option.bind_assoc ..));obtain⟨w8,hw8,h8⟩:∃z,w7.setCell (q,2) (.int .i64 ((i5:Int)+1))=z/\Hid (DcS B q A c L en eA ec el w0 ra s i0 z (i5+1) ty (.slice A7 J c7) J):=⟨_,rfl,iy (h7.out.to hqa (by rw[jJ];exact iq _) (h7.out.R.move (j:=i5+1) lt6) iu)⟩;obtain⟨c0,c1,c2',c3,f2,l0⟩:=h7.out.R.fields;have hfew:=h7.out.R.few;clear h7;go_wp2_with fail;try rw[hw8]
  clear hw8 c0 c1 c2' c3 f2 l0;refine app8 (qW (h8.out.R.after zc)) HX h8.out.a (iy h8.out.le) h8.out.b 2 rfl h8.out.o knO lY (fun _=>rfl) (by have:=hm.out;omega) h8.out.b.lt iu iu iu z1 z0 hcO (fun _=>rfl) (hvO htag hel) ?_;clear HX;intro w9 y i9 v2 v9 v5 HX le9 li9 R9 a9 n9 b9 o9 nv;have h9:=iy (show DcS B q A c L en eA ec el w0 ra s i0 w9 i9 ty v2 (J++[y]) from⟨R9.out,a9,b9.out,o9.out,le9.out⟩);have hm9:Hid ((J++[y]).length+m=4):=iy (by have:=hm.out;simp;omega);have l9:=R9.out.le;clear h8 le9 R9 a9 n9 b9 o9 nv;simp only[Act.put,sC];go_wp2;go_roundw
  case rel=>exact⟨i9,m,v2,J++[y],hm9,HX,h9⟩
  case measure=>(rw[je h9.out.R.fields.2.2.1,d1.out];omega)
 skip;obtain rfl:m=0:=by have:=hm.out;omega
 have HXn:Hid (X=none):=HX;obtain⟨a,er,rfl,he⟩:=hf;unfold oD;go_wp2_with fail;exact⟨rfl,pk.none HXn.out (ij (im aw0) h7.out.a) (jz a er he)⟩
end
end
end Go.Proofs.YtnigblndonocfaaGreatDoor
