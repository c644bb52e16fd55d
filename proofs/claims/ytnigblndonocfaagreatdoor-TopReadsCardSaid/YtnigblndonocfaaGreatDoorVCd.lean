/- TopReads: every text that is read is shown as a text that is read as the same program. No conditions beyond the row. -/
import Derived.Test.YtnigblndonocfaaGreatDoorVLa
import Derived.Test.YtnigblndonocfaaGreatDoorCards
import Derived.Test.YtnigblndonocfaaGreatDoorTie
import Derived.WalkKit
import Derived.ProofKit
import Derived.ChangeMaps5
import Derived.OpenShut
import Derived.SizedLaws
import Derived.Lib.SmallJoins
import Derived.Deep.Slices
import Derived.LaidMore
import Derived.Deep.DeepHandedRow
import Derived.Lib.LaidTab
set_option linter.unusedVariables false
set_option linter.unusedSimpArgs false
set_option maxRecDepth 100000
namespace Go.Proofs.YtnigblndonocfaaGreatDoor.topReads
open Go.Proofs.Tryz
open Go.ChangeShapes Go.WideShapes Go.ChangeAt Go.RowKit Go.BigFrame Go.Joins Go.Deep Go.ChangeMaps
theorem own:ownKnob prog.godebug=none:=by kernel_rfl
theorem tPow:(prog.globals[1]?).map (·.type)=some 281:=by kernel_rfl
theorem tab_of {W:World} (h:laidMetH prog Rows.topReadsRow.laid W):Lib.TabIs prog W "internal/strconv.uint64pow10" .u64 Lib.pow10Tab:=by
 rw[MakeChecks.laidMetH_plain _ _ _ kp]at h;obtain⟨ps,⟨g1,t1,cs1,f1,p1,q1,-,-,-,-,⟨g2,t2,cs2,f2,p2,q2,-,-,-,-,⟨g',t',cs,fuel,p,q,hg',ht',hvar,hd,_,_⟩,_⟩,_⟩,_⟩:=h;obtain rfl:=sI (QR.symm.trans hg');obtain rfl:=sI (tPow.symm.trans ht');unfold Lib.TabIs;rw[hvar,<- Lib.cells_of_tab (zs:=Lib.pow10Tab) underlying281 underlying212 kp kp hd]
theorem contract (H:Type) (enc:TypeId×Value->H) (W:World) (base:Nat) (args:Array Value) (ds gs:List (DataW H)) (before:List MemPlace)
  (hval0:∀(j:Nat) t v,f3.params[j]?=some t->args[j]?=some v->Value.okWide prog W .any base t v)
  (hW:DataW.Whole enc prog f3.params.toList Rows.topReadsSpec.vars false W args.toList ds gs before)
  (hsz0:(DataW.weightsEach prog (f3.params.toList++Rows.topReadsSpec.plain.varTypes prog) (ds++gs)).all (·<=reachBytes)=true)
  (hL:laidMetH prog Rows.topReadsRow.laid W) :
  Calls prog 3 args W fun e W'=>∃v,e=.returned v/\Rows.topReadsSpec.post enc prog f3 false true false false W args v W':=by
 have hO:=tab_of hL;have hval:∀(j:Nat) t v,f3.params[j]?=some t->args[j]?=some v->Value.okWide prog W .any base t v:=hval0;have hsz:=hsz0;have hW':=hW;obtain⟨p,q,hA0,hV,rfl,hfz,hnd⟩:=hW;have hA:DataW.TrodAll enc prog W 0 (fun _=>true) true f3.params.toList args.toList ds p:=hA0;rw[params3]at hA hval hsz;obtain⟨v0,vs0,d0,ds0,p0,q0,hargs,rfl,rfl,h0,r0⟩:=trodAll_cons hA;obtain⟨rfl,rfl,rfl⟩:=trodAll_nil r0;obtain rfl:args=#[v0]:=by cases args;simp_all
 obtain⟨rfl,rfl⟩:=trodVars_none hV;have z0:∀n∈d0.weights prog 9,n<=reachBytes:=fun n hn=>by
  simpa using Bk.1 hsz n (DataW.weights_mem_each (j:=0) (t:=9) rfl rfl n hn)
 obtain⟨s0,rfl,rfl,rfl,w0⟩:=open_string underlying9 (hval 0 9 v0 rfl rfl) h0;have n0:s0.size<=140737488355328:=jW (show s0.data.toList.length<=reachBytes from z0 s0.data.toList.length (by simp[DataW.weights])) (by unfold reachBytes;decide);refine (Dv W hO s0 n0).mono fun e W' ⟨he,y,hy⟩=>?_
 subst he;have bel:Below W.heap.size W W':=by rw[hy];exact qB W y
 exact⟨_,rfl,_,_,_,[],_,[],hW',trodAll_mk1 (shut_bool underlying4 _),(trodAll_cons_mk (shut_string underlying9 w0) trodAll_mk0),rfl,bel.frame _,fun h=>by cases h⟩
def tabCells:DataW Unit->Array Value
 |.agg l=>(l.map fun
  |.lit (.int k z)=>Value.int k z
  |_=>Value.bool false).toArray
 |_=>#[]
def fill (d:DataW Unit):Obj->Obj
 |.cells _ t frozen=>.cells (tabCells d) t frozen
 |o=>o
noncomputable def laidWorld (os:Os):World:=
 { World.holding prog os ⟨#[],#[],[]⟩ with heap:=(((World.holding prog os ⟨#[],#[],[]⟩).heap.modify 1 (fill Rows.laid_internal_strconv_uint64pow10)).modify 2 (fill Rows.laid_math_bits_deBruijn32tab)).modify 3 (fill Rows.laid_math_bits_deBruijn64tab) }
theorem laid_met (os:Os):laidMet prog Rows.topReadsRow.laid ((laidWorld os).forCall (fun _ _=>0) ⟨#[],#[Value.string ByteArray.empty],[]⟩).memory:=
 laidMet_of_run' 16 kp kp
theorem laid_metH (os:Os):laidMetH prog Rows.topReadsRow.laid ((laidWorld os).forCall (fun _ _=>0) ⟨#[],#[Value.string ByteArray.empty],[]⟩).memory:=by
 rw[MakeChecks.laidMetH_plain _ _ _ kp];exact laid_met os
theorem reads (os:Os) {H:Type} (enc:TypeId×Value->H):∃ds places,DataW.whole enc prog ((laidWorld os).forCall (fun _ _=>0) ⟨#[],#[Value.string ByteArray.empty],[]⟩).memory f3.params.toList Rows.topReadsSpec.vars false #[Value.string ByteArray.empty].toList 16=some (ds,[],places):=
 ⟨[.lit (.string [])],[],kp⟩
theorem lifted (os:Os) (started:os.Started) (H:Type) (enc:TypeId×Value->H) (F:Stop.Interp) :
  ReturnsInHanded {} checked os 3 .any ((OpenSpec.ofChange Rows.topReadsSpec).preRow enc prog f3 Rows.topReadsRow.domain false Rows.topReadsRow.laid) (((OpenSpec.ofChange Rows.topReadsSpec).at F).post enc prog f3 false true false false):=by
 obtain⟨ds,places,hx⟩:=reads os enc;refine returnsInHanded_of_row (C:=checked) (s:=OpenSpec.ofChange Rows.topReadsSpec) own started kp func3
  (witness_row_at (enc:=enc) (C:=checked) false (laidWorld os) #[Value.string ByteArray.empty] rfl kp kp kp
   (OpenSpec.preRow_of_cond 16 hx (by first | rfl | kernel_rfl) (fun k hk=>by cases hk) kp (laid_metH os))) ?_
 intro W base args ds gs before hval hW _ _ hsz hL _ _;exact contract H enc W base args ds gs before hval hW hsz hL
theorem said:Rows.TopReadsSaid:=
 OpenClaim.holds_of_cond 3 f3 rfl rfl rfl rfl rfl rfl rfl ⟨rfl,rfl,rfl,rfl,rfl⟩ rfl rfl rfl rfl rfl kp func3 kp
  (vO kp) (by unfold Func.isWrapper;first | (rw[iG (by decide +kernel)];kernel_rfl) | (rw[iV (by decide +kernel)];exact⟨rfl,rfl⟩))
  (fun os started H enc _ F=>by rw[OpenClaim.pre_eq_preRow];exact lifted os started H enc F)
theorem plain (f:FuncId) (fn:Func) (hf:Tryz.pinned.checked.prog.funcNamed "synchrony/synchronytop.TopReads"=some f) (hfn:Tryz.pinned.checked.prog.funcs[f]?=some fn) :
  true=Tryz.pinned.checked.prog.looks []/\∀(j:Nat) t,fn.params[j]?=some t->Tryz.pinned.checked.prog.wantsStandIn t=false:=by
 obtain rfl:f=3:=sI ((show prog.funcNamed "synchrony/synchronytop.TopReads"=some 3 by kernel_rfl).symm.trans hf) |>.symm;obtain rfl:fn=f3:=(sI (func3.symm.trans hfn)).symm;refine⟨kp,fun j t ht=>?_⟩;have hj:j<1:=by
  have:=(Array.getElem?_eq_some_iff.1 ht).1;rw[params3]at this;exact this
 rw[params3]at ht
 match j,hj with
 |0,_=>obtain rfl:=sI ht;exact (show prog.wantsStandIn 9=false by kernel_rfl)
theorem proved:Rows.TopReadsCardSaid:=
 Claim7.holds_tied_plain_at .later [] _ _ _ _ said (fun _ h=>by cases h) kp (fun _ h=>by cases h) topReads_row_tie rfl ⟨rfl,rfl⟩ kp rfl plain kp
#print axioms proved
end Go.Proofs.YtnigblndonocfaaGreatDoor.topReads
