/- TopText: a program whose names are right is read from its text as it was. No conditions beyond the row. -/
import Derived.Test.YtnigblndonocfaaGreatDoorP16
import Derived.Test.YtnigblndonocfaaGreatDoorP15
import Derived.Test.YtnigblndonocfaaGreatDoorCards
import Derived.Test.YtnigblndonocfaaGreatDoorTie
import Derived.WalkKit
import Derived.ProofKit
import Derived.ChangeMaps5
import Derived.OpenShut
import Derived.SizedLaws
import Derived.Lib.SmallJoins
import Derived.Deep.Slices
import Derived.LaidMore
import Derived.Deep.DeepHandedRow
import Derived.Lib.LaidTab
set_option linter.unusedVariables false
set_option linter.unusedSimpArgs false
set_option maxRecDepth 100000
set_option maxHeartbeats 6400000
namespace Go.Proofs.YtnigblndonocfaaGreatDoor.topText
open Go.Proofs.Tryz
open Go.ChangeShapes Go.WideShapes Go.ChangeAt Go.RowKit Go.BigFrame Go.Joins Go.Deep Go.ChangeMaps
theorem own9:ownKnob prog.godebug=none:=by kernel_rfl
theorem laidOut:laidOutB prog=true:=by kernel_rfl
theorem tPow:(prog.globals[1]?).map (·.type)=some 281:=by kernel_rfl
theorem tab_of {W:yM} (h:laidMetH prog Rows.topTextUptoRow.laid W):Lib.TabIs prog W "internal/strconv.uint64pow10" .u64 Lib.pow10Tab:=by
 rw[MakeChecks.laidMetH_plain _ _ _ kp]at h;obtain⟨ps,⟨g1,t1,cs1,f1,p1,q1,-,-,-,-,⟨g2,t2,cs2,f2,p2,q2,-,-,-,-,⟨g',t',cs,fuel,p,q,hg',ht',hvar,hd,_,_⟩,_⟩,_⟩,_⟩:=h;obtain rfl:=sI (QR.symm.trans hg');obtain rfl:=sI (tPow.symm.trans ht');unfold Lib.TabIs;rw[hvar,<- Lib.cells_of_tab (zs:=Lib.pow10Tab) underlying281 underlying212 kp kp hd]
theorem contract (H:Type) (enc:TypeId×Value->H) (W:yM) (base:Nat) (args:Array Value) (ds gs:List (DataW H)) (before:List MemPlace)
  (hval0:∀(j:Nat) t v,f4.params[j]?=some t->args[j]?=some v->Value.okWide prog W .any base t v)
  (hW:DataW.Whole enc prog f4.params.toList Rows.topTextSpec.vars false W args.toList ds gs before)
  (hsz0:(DataW.weightsEach prog (f4.params.toList++Rows.topTextSpec.plain.varTypes prog) (ds++gs)).all (·<=reachBytes)=true)
  (hbk:Rows.uptoBulkAll (ds++gs)<=1048576)
  (hL:laidMetH prog Rows.topTextUptoRow.laid W) :
  Calls prog 4 args W fun e W'=>∃v,e=.returned v/\Rows.topTextSpec.post enc prog f4 false true false false W args v W':=by
 have M:=tab_of hL;have a:∀(j:Nat) t v,f4.params[j]?=some t->args[j]?=some v->Value.okWide prog W .any base t v:=hval0;have b:=hsz0;have k:=hW;obtain⟨p,q,c,L,rfl,J,F⟩:=hW;have s:DataW.TrodAll enc prog W 0 (fun _=>true) true f4.params.toList args.toList ds p:=c;rw[params4]at s a b;obtain⟨o,z,R,Q,B,U,i,rfl,rfl,u,A⟩:=trodAll_cons s;obtain⟨rfl,rfl,rfl⟩:=trodAll_nil A;obtain rfl:args=#[o]:=by cases args;simp_all
 obtain⟨rfl,rfl⟩:=trodVars_none L;have r:=u;have f:∀x∈B,x.block<W.heap.size:=by obtain⟨m,I⟩:=r;exact DataW.trod_lt m _ _ _ I
 have w:∀n∈R.weights prog 25,n<=reachBytes:=fun n G=>by
  simpa using Bk.1 b n (DataW.weights_mem_each (j:=0) (t:=25) rfl rfl n G)
 obtain⟨P,E,O,D,N,C,rfl,y,g⟩:=VD (S:=True) (a 0 25 o rfl rfl) u w (fun _=>jW (Pi (by simp)) hbk);clear c hval0 hsz0 b;refine (Uu W M y (g trivial)).mono fun e W' ⟨K,T⟩=>?_
 subst K;have d:Below W W W':=T.below;exact⟨_,rfl,_,_,_,[],_,[],k,trodAll_mk1 (shut_bool underlying4 _),(trodAll_cons_mk (Below.trod laidOut kp (vO kp) r d f) trodAll_mk0),rfl,d.frame _,fun h=>by cases h⟩
def tabCells:DataW Unit->Array Value
 |.agg l=>(l.map fun
  |.lit (.int k z)=>Value.int k z
  |_=>Value.bool false).toArray
 |_=>#[]
def fill (d:DataW Unit):Obj->Obj
 |.cells _ t frozen=>.cells (tabCells d) t frozen
 |o=>o
noncomputable def laidWorld (os:Os):yM:=
 { World.holding prog os ⟨#[],#[],[]⟩ with heap:=(((World.holding prog os ⟨#[],#[],[]⟩).heap.modify 1 (fill Rows.laid_internal_strconv_uint64pow10)).modify 2 (fill Rows.laid_math_bits_deBruijn32tab)).modify 3 (fill Rows.laid_math_bits_deBruijn64tab) }
theorem laid_met (os:Os):laidMet prog Rows.topTextUptoRow.laid ((laidWorld os).forCall (fun _ _=>0) ⟨#[],#[Value.agg #[(),()]],[]⟩).memory:=
 laidMet_of_run' 16 kp kp
theorem laid_metH (os:Os):laidMetH prog Rows.topTextUptoRow.laid ((laidWorld os).forCall (fun _ _=>0) ⟨#[],#[Value.agg #[(),()]],[]⟩).memory:=by
 rw[MakeChecks.laidMetH_plain _ _ _ kp];exact laid_met os
theorem reads (os:Os) {H:Type} (enc:TypeId×Value->H):∃places,DataW.whole enc prog ((laidWorld os).forCall (fun _ _=>0) ⟨#[],#[Value.agg #[(),()]],[]⟩).memory f4.params.toList Rows.topTextSpec.vars false #[Value.agg #[(),()]].toList 16=some ([.agg [.nil,.nil]],[],places):=
 ⟨[],by kernel_rfl⟩
theorem lifted (os:Os) (started:os.Started) (H:Type) (enc:TypeId×Value->H) (F:Stop.Interp) :
  ReturnsInHanded {} checked os 4 .any ((Rows.OpenSpec.upto Rows.topTextSpec).preRow enc prog f4 Rows.topTextUptoRow.domain false Rows.topTextUptoRow.laid) (((Rows.OpenSpec.upto Rows.topTextSpec).at F).post enc prog f4 false true false false):=by
 obtain⟨e,h⟩:=reads os enc;refine returnsInHanded_of_row (C:=checked) (s:=Rows.OpenSpec.upto Rows.topTextSpec) own9 started kp func4
  (witness_row_at (enc:=enc) (C:=checked) false (laidWorld os) #[Value.agg #[(),()]] rfl kp kp kp
   (OpenSpec.preRow_of_cond 16 h (by first | rfl | kernel_rfl) (fun k i=>by cases i;kernel_rfl) kp (laid_metH os))) ?_
 intro W c d o n a b j _ g f m _ _;exact contract H enc W c d o n a b j f (vO (g _ rfl)) m
theorem said:Rows.TopTextUptoSaid:=
 OpenClaim.holds_of_cond 4 f4 rfl rfl rfl rfl rfl rfl rfl ⟨rfl,rfl,rfl,rfl,rfl⟩ rfl rfl rfl rfl rfl kp func4 kp
  (vO kp) (by unfold Func.isWrapper;first | (rw[iG (by decide +kernel)];kernel_rfl) | (rw[iV (by decide +kernel)];exact⟨rfl,rfl⟩))
  (fun os started H enc _ F=>by rw[OpenClaim.pre_eq_preRow];exact lifted os started H enc F)
theorem plain (f:FuncId) (fn:Func) (hf:Tryz.pinned.checked.prog.funcNamed "synchrony/synchronytop.TopText"=some f) (hfn:Tryz.pinned.checked.prog.funcs[f]?=some fn) :
  true=Tryz.pinned.checked.prog.looks []/\∀(j:Nat) t,fn.params[j]?=some t->Tryz.pinned.checked.prog.wantsStandIn t=false:=by
 obtain rfl:f=4:=sI ((show prog.funcNamed "synchrony/synchronytop.TopText"=some 4 by kernel_rfl).symm.trans hf) |>.symm;obtain rfl:fn=f4:=(sI (func4.symm.trans hfn)).symm;refine⟨by kernel_rfl,fun j t ht=>?_⟩;have hj:j<1:=by
  have:=(Array.getElem?_eq_some_iff.1 ht).1;rw[params4]at this;exact this
 rw[params4]at ht
 match j,hj with
 |0,_=>obtain rfl:=sI ht;exact (show prog.wantsStandIn 25=false by kernel_rfl)
theorem proved:Rows.TopTextUptoCardSaid:=
 Claim7.holds_tied_plain_at .later [] _ _ _ _ said (fun _ h=>by cases h) kp (fun _ h=>by cases h) topTextUpto_row_tie rfl ⟨rfl,rfl⟩ kp rfl plain kp
#print axioms proved
end Go.Proofs.YtnigblndonocfaaGreatDoor.topText
