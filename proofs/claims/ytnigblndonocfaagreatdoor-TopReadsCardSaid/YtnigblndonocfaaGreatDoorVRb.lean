/- A part of the proof. -/
import Derived.Test.YtnigblndonocfaaGreatDoorVOk
import Derived.Test.YtnigblndonocfaaGreatDoorPGm
import Derived.Defers
import Derived.Recover
set_option linter.unusedVariables false
set_option linter.unusedSimpArgs false
namespace Go.Proofs.YtnigblndonocfaaGreatDoor
set_option maxRecDepth 100000
set_option maxHeartbeats 6400000
open Go.Proofs.Tryz
open Go.RowKit Go.BigFrame
section
theorem xR {p:UInt8->Bool}:∀l:List UInt8,∀c∈l.takeWhile p,p c=true
 |[],c,h=>by cases h
 |a::l,c,h=>by
  rw[CZ]at h;split at h
  ·rename_i ha
   rcases uW.1 h with h | h
   ·rw[h];exact ha
   exact xR l c h
  cases h
theorem LQ {s:ByteArray} {a b:Nat} {t:Tk} (h:oK s a=some (t,b)):Na t:=by
 unfold oK at h;intro o;split at h
 ·unfold BS Bb at h
  split at h
  ·cases h
  injection h with h
  injection h with h
  subst h;simp only[]at o;split at o<;>cases o
 split at h
 ·rename_i hd
  unfold vw rh at h;split at h
  ·cases h
  split at h
  ·cases h
  rename_i h5
  injection h with h
  injection h with h
  subst h;simp only[Bool.not_eq_true,Bool.or_eq_false_iff,decide_eq_false_iff_not]at h5;have e:(s.extract a (a+jv jw s a)).data.toList=(s.data.toList.drop a).takeWhile (fun c=>jw (c.toNat:Nat)):=by
   rw[Lib.extract_data,show a+jv jw s a-a=jv jw s a by omega];unfold jv;exact (List.prefix_iff_eq_take.1 (List.takeWhile_prefix _)).symm
  have j:(s.extract a (a+jv jw s a)).size=jv jw s a:=by
   rw[<- jr,e];rfl
  refine⟨fun c I=>?_,?_,?_⟩
  ·simp only[]at I
   rw[e]at I;exact xR (p:=fun c=>jw (c.toNat:Nat)) _ c I
  ·simp only[]
   rw[j];unfold jv;unfold qM at hd;cases hx:s.data.toList.drop a with
   |nil=>rw[hx]at hd;exact absurd hd iI
   |cons c l=>
   rw[hx,List.headD_cons]at hd;rw[CZ,iG hd];simp
  simp only[];rw[j];omega
 split at h
 ·unfold BL at h
  split at h
  ·injection h with h
   injection h with h
   subst h;cases o
  cases h
 unfold vy at h;split at h
 ·cases h
 injection h with h
 injection h with h
 subst h;cases o
theorem Ip {s:ByteArray}:∀{f a:Nat} {ts:List Tk},sH f s a=some ts->∀t∈ts,Na t
 |0,a,ts,h=>by cases h
 |f+1,a,ts,h=>by
  unfold sH at h;split at h
  ·injection h with h
   subst h;intro t ht;cases ht
  cases ht:oK s (uh (s.size+1) s a) with
  |none=>rw[ht]at h;cases h
  |some p=>
  obtain⟨t,b⟩:=p;rw[ht]at h;simp only[]at h;cases hs:sH f s b with
  |none=>rw[hs]at h;cases h
  |some ts'=>
  rw[hs]at h;injection h with h
  subst h;intro x hx;rcases uW.1 hx with hx | hx
  ·rw[hx];exact LQ ht
  exact Ip hs x hx
theorem Hf {s:ByteArray} {ts:List Tk} (h:nP s=some ts):∀t∈ts,Na t:=by
 unfold nP at h;split at h
 ·cases h
 exact Ip h
theorem OR {w:World} {q:Nat} (hq:w.heap.size=q) (o:Obj):ik w (iz q (w.alloc o)):=by
 have a:ik w (w.alloc o):=iR;refine⟨⟨a.below.os,a.below.tape,a.below.output,by rw[iZ];exact a.below.size,fun b j=>?_⟩⟩;rw[km _ iu];exact a.below.block b j
def Jn (s:ByteArray) (w:World) (r:Option (List Tk)) (e:Ending) (w':World):Prop:=ik w w'/\match r with
 |none=>∃a er:Int,e=.returned (.tuple #[.pointer none,a,er])/\er≠0
 |some ts=>∃(A:Option Addr) (c q:Nat),e=.returned (.tuple #[.pointer (some q),.int .i64 0,.int .i64 0])/\w.heap.size<=q/\Rd (iz q w') q A c ts (s.size:Nat) none 0 [] w' 0
theorem Jn.bad {s:ByteArray} {w w':World} {r:Option (List Tk)} {a er:Int} (h:r=none) (aw:ik w w') (he:er≠0):Jn s w r (.returned (.tuple #[.pointer none,a,er])) w':=by subst h;exact⟨aw,a,er,rfl,he⟩
theorem Jn.ok {s:ByteArray} {w w':World} {r:Option (List Tk)} {ts:List Tk} {A:Option Addr} {c q:Nat} (h:r=some ts) (aw:ik w w') (hq:w.heap.size<=q) (hR:Rd (iz q w') q A c ts (s.size:Nat) none 0 [] w' 0):Jn s w r (.returned (.tuple #[.pointer (some q),.int .i64 0,.int .i64 0])) w':=by subst h;exact⟨aw,A,c,q,rfl,hq,hR⟩
theorem LY (s:ByteArray) (hs:s.size<=140737488355328) (w:World):Calls prog 10 #[s,.slice none 0 0] w (Jn s w (nP s)):=by
 have HC:=iy (Nn s hs w);have HN:Hid (∀j,nP s=some j->∀t∈j,Na t):=fun j h=>Hf h
 generalize nP s=X at HC HN;go_in;go_wp2_with fail;refine HC.mono ?_;rintro e w1 ⟨a1,hX⟩;cases X with
 |none=>
  obtain⟨a,er,rfl,he,h0,h1,h2,h3⟩:=hX;go_wp2_with fail;exact jR (v:=.tuple #[.pointer none,a,er]) (by simp[results,results10,go_sem]) rfl (Jn.bad rfl a1 he)
 |some j=>
 obtain⟨A,c,rfl,hR,hl⟩:=hX;have I:=iy (HN j rfl);have HR:=iy hR;obtain⟨q,U⟩:=jt (w1.heap.size);obtain⟨w2,J,a2,B2,R2⟩:∃z,w1.alloc (.cells #[.slice A j.length c,.int .i64 (s.size:Nat),.int .i64 0,.slice none 0 0] 95)=z/\ik w z/\iP z q 95 #[.slice A j.length c,.int .i64 (s.size:Nat),.int .i64 (0:Nat),.slice none 0 0]/\ir 3 Om (iz q z) ⟨A,c,j⟩:=⟨_,rfl,have:=a1;iR,by rw[<- U];exact jC ..,HR.below xB (OR U _).below⟩;have hR:=iy (show Rd (iz q w2) q A c j (s.size:Nat) none 0 [] w2 0 from⟨B2,iq _,wB _,R2,ir.nil _,hl,I⟩);have R:w.heap.size<=q:=by have:=a1.below.size;omega
 have o:=iy J;go_wp2_with fail;try rw[U]
 try rw[o.out]
 exact jR (v:=.tuple #[.pointer (some q),.int .i64 0,.int .i64 0]) (by simp[results,results10,go_sem]) rfl (Jn.ok rfl a2 R hR)
section
variable {B:World} {q:Nat} {A:Option Addr} {c:Nat} {L:List Tk} {en:Int} {eA:Option Addr} {ec:Nat} {el:List iW} {w:World} {i:Nat}
def SY (w:World) (i n:Nat) (e:Ending) (w':World):Prop:=ik w w'/\((i=n/\e=.returned (.tuple #[]))\/(i<n/\Fl e))
theorem IP (h:Rd B q A c L en eA ec el w i):Calls prog 14 #[.pointer (some q)] w (SY w i L.length):=by
 obtain⟨b1,b2,b3,b4⟩:=h.bounds;obtain⟨c0,c1,c2,c3,f2,l0⟩:=h.fields;have HF:=iy (fun U (j:ik w U)=>nj (h.after j) i iu 5);have HC:Hid (∀U,ik w U->U.cell? q=some (.slice A L.length c)/\U.cell? ⟨q,2,none⟩=some (.int .i64 (i:Nat))/\Le (q+1) U):=fun U j=>⟨(h.after j).fields.1,(h.after j).fields.2.2.1,(h.after j).blk.is_le⟩
 by_cases hj:i<L.length
 ·have I:(i:Int)<(L.length:Int):=iu
  go_in;go_wp2_with fail;refine iE kp kp ?_;repeat (go_big_quiet_step (fail))
  refine wpQuiet_nil ?_;rintro _ ⟨R,rfl⟩;obtain⟨d0,d2,dl⟩:=HC (w.more R) iR;go_wp2_with fail;refine (HF _ iR).mono ?_;rintro e w2 ⟨⟨a,rfl⟩,a2⟩;have o:=jz a 5 iI;have a3:ik w w2:=ij inferInstance a2;unfold oD at o⊢;go_wp2_with fail;exact⟨rfl,a3,.inr ⟨hj,o⟩⟩
 have I:¬((i:Int)<(L.length:Int)):=iu;have J:i=L.length:=iu;have HI:=iy J;go_in;go_wp2_with fail;refine iE kp kp ?_;repeat (go_big_quiet_step (fail))
 refine wpQuiet_nil ?_;rintro _ ⟨R,rfl⟩;go_wp2_with fail;go_end0;exact⟨iR,.inl ⟨HI,rfl⟩⟩
end
theorem Rf (v:Value) (w:World):(Instr.typeAssert (Value.iface 97 v) 20 97 true).run prog w=.ok (.tuple #[v,.bool true]) w:=by kernel_rfl
theorem I_ (a er:Int) (w:World):Calls prog 12 #[.iface 97 (.agg #[a,er])] w fun e w'=>e=.returned (.tuple #[a,er])/\ik w w':=by
 have a1:=Rf (.agg #[a,er]);have j:=jC w 97 #[a,er];obtain⟨g,J⟩:∃g,w.heap.size=g:=⟨_,rfl⟩;obtain⟨W,R,aW⟩:∃W,w.alloc (.cells #[a,er] 97)=W/\ik w W:=⟨_,rfl,inferInstance⟩;rw[R,J]at j;have HK:Hid (∀U,ik W U->U.cell? g=some (.int .i64 a)/\U.cell? ⟨g,1,none⟩=some (.int .i64 er)/\Le (g+1) U):=fun U I=>⟨((mZ (k:=I) j).cell 0).trans rfl,((mZ (k:=I) j).cell 1).trans rfl,(mZ (k:=I) j).is_le⟩
 obtain⟨k0,k1,kl⟩:=HK W (iq _);have o:=iB R;go_in;go_wp2_with fail;try rw[J]
 try rw[o.out]
 refine iE (by kernel_rfl) (by kernel_rfl) ?_;repeat (go_big_quiet_step (fail))
 refine wpQuiet_nil ?_;rintro _ ⟨y_,rfl⟩;go_wp2_with fail;exact jR (v:=.tuple #[a,er]) (by simp[results,results12,go_sem]) rfl ⟨rfl,ij aW iR⟩
end
section
theorem Eu (p q r v:Value):#[p,q,r]++((Array.replicate 10 undef).setIfInBounds 1 v).setIfInBounds 0 v=#[p,q,r,v,v,undef,undef,undef,undef,undef,undef,undef,undef]:=by kernel_rfl
theorem Hd (p q r:Addr) (w:World) :
  CallsD prog 11 #[.pointer (some p),.pointer (some q),.pointer (some r)] .returning w fun e u' w'=>e=.returned (.tuple #[])/\u'=.returning/\ik w w':=by
 refine callsD_of_wpS func11 rfl fun o I j=>?_
 apply wpS_seq;apply wpS_region;simp[wpOpsS,go_sem,recoverD,j,ntmps11,Exit.thenS];refine wpS_of_wp ?_;rw[Eu];go_wp2_with fail;exact⟨rfl,_,by cases o;simp_all,.tuple #[],by simp[results,results11,go_sem],rfl,rfl,iR⟩
theorem JE (g1 g2 g3:Nat) (a er:Int) (w:World) (W0:World) (hw:ik W0 w) (h1:W0.heap.size<=g1) (h2:W0.heap.size<=g2) (h3:W0.heap.size<=g3) {u1 u2 u3 u4:Value} (b1:iP w g1 25 #[u1,u2]) (b2:iP w g2 3 #[u3]) (b3:iP w g3 26 #[u4]) (n12:g1≠g2) (n13:g1≠g3) (n23:g2≠g3) (older:List PanicEntry) :
  CallsD prog 11 #[.pointer (some g1),.pointer (some g2),.pointer (some g3)] (.panicking ({ v:=.iface 97 (.agg #[a,er]),recovered:=false }::older)) w fun e u' w'=>e=.returned (.tuple #[])/\u'=.panicking ({ v:=.iface 97 (.agg #[a,er]),recovered:=true }::older)/\ik W0 w'/\iP w' g1 25 #[.slice none 0 0,.slice none 0 0]/\iP w' g2 3 #[a]/\iP w' g3 26 #[er]:=by
 refine callsD_of_wpS func11 rfl fun c₀ cs hu=>?_
 apply wpS_seq;apply wpS_region;simp[wpOpsS,go_sem,recoverD,hu,ntmps11,Exit.thenS];refine wpS_of_wp ?_;rw[Eu];have a':uD W0 g1:=⟨h1⟩;have a_:uD W0 g2:=⟨h2⟩;have a8:uD W0 g3:=⟨h3⟩;obtain⟨w1,J,c1,c2,c3,a1⟩:∃z,(w.setCell g1 (.slice none 0 0)).setCell ⟨g1,1,none⟩ (.slice none 0 0)=z/\iP z g1 25 #[.slice none 0 0,.slice none 0 0]/\iP z g2 3 #[u3]/\iP z g3 26 #[u4]/\ik W0 z:=⟨_,rfl,(b1.jx 0 _).jx 1 _,(b2.qU (p:=⟨g1,0,none⟩) (ls n12) _).qU (p:=⟨g1,1,none⟩) (ls n12) _,(b3.qU (p:=⟨g1,0,none⟩) (ls n13) _).qU (p:=⟨g1,1,none⟩) (ls n13) _,inferInstance⟩;have k0:=(b1.cell 0).trans rfl;have k1:=(b1.cell 1).trans rfl;have kl:=b1.is_le;have ab:=b1.frozen 0;have aa:=b1.frozen 1;have HC:=iB (fun U=>I_ a er U);have C1:=iB c1;have C2:=iB c2;have C3:=iB c3;go_wp2_with fail;try rw[J]
 refine (HC _).mono ?_;rintro e w2 ⟨rfl,j⟩;have a3:=ij a1 j;have D1:=C1.after (k:=j);have I:=C2.after (k:=j);have o:=C3.after (k:=j);have a7:=iB ((D1.qU (p:=⟨g2,0,none⟩) n12 (.int .i64 a)).qU (p:=⟨g3,0,none⟩) n13 (.int .i64 er));have a6:=iB ((I.jx 0 (.int .i64 a)).qU (p:=⟨g3,0,none⟩) n23 (.int .i64 er));have R:=iB ((o.qU (p:=⟨g2,0,none⟩) (ls n23) (.int .i64 a)).jx 0 (.int .i64 er));have x0:=(I.cell 0).trans rfl;have xl:=I.is_le;have xf:=I.frozen 0;have y0:=(o.cell 0).trans rfl;have yl:=o.is_le;have yf:=o.frozen 0;have m1:F0 g2 g3:=⟨n23⟩;have m2:F0 g3 g2:=⟨ls n23⟩;go_wp2_with fail;exact⟨rfl,_,rfl,.tuple #[],by simp[results,results11,go_sem],rfl,rfl,inferInstance,a7,a6,R⟩
def KF:Nat:=1310760
def xW (s:ByteArray):Prop:=nP s=none\/∃ts,nP s=some ts/\(mE 24 [] ts=none\/∃(el:List iW) (r:List Tk),mE 24 [] ts=some (el.map iW.er,r)/\el.length<=24/\(∀u∈el,u.tags.l.length<=16)/\(mQ el KF 96 [] r=none\/∃ns r',mQ el KF 96 [] r=some (ns,r')/\(r'≠[]\/∃nl:List nh,nl.map nh.er=ns/\(nv el nl).2.2≠0)))
def wM (s:ByteArray) (pg:Il):Prop:=∃ts r,nP s=some ts/\mE 24 [] ts=some (pg.enums.l.map iW.er,r)/\pg.enums.l.length<=24/\(∀u∈pg.enums.l,u.tags.l.length<=16)/\mQ pg.enums.l KF 96 [] r=some (pg.nodes.l.map nh.er,[])/\(nv pg.enums.l pg.nodes.l).2.2=0
def Gt (pg:Il):Value:=.agg #[.slice pg.enums.A pg.enums.l.length pg.enums.c,.slice pg.nodes.A pg.nodes.l.length pg.nodes.c]
def Mi (s:ByteArray) (w:World) (e:Ending) (w':World):Prop:=ik w w'/\∃(v:Value) (a er:Int),e=.returned (.tuple #[v,a,er])/\((er≠0/\v=.agg #[.slice none 0 0,.slice none 0 0]/\xW s)\/(er=0/\∃pg:Il,v=Gt pg/\FJ True (old w.heap.size w') pg/\wM s pg))
theorem Am {s:ByteArray} {w U:World} {g1 g2 g3:Nat} {u1 u2 u3 u4:Value} {a er:Int} {tm:Array Value} (aw:ik w U) (b1:iP U g1 25 #[u1,u2]) (b2:iP U g2 3 #[u3]) (b3:iP U g3 26 #[u4]) (hn:w.heap.size<=g1/\w.heap.size<=g2/\w.heap.size<=g3/\g1≠g2/\g1≠g3/\g2≠g3) (he:er≠0) (hbad:xW s)
  (t2:tm[2]?=some (.pointer (some g1))) (t3:tm[3]?=some (.pointer (some g2))) (t4:tm[4]?=some (.pointer (some g3))) :
  bodyPostD prog f5 (Mi s w) (Exit.panic [{ v:=.iface 97 (.agg #[a,er]),recovered:=false }]) { tmps:=tm,defers:=[{ target:=Target.fn (Fn.func 11) #[.pointer (some g1),.pointer (some g2),.pointer (some g3)],args:=#[] }] } U:=by
 refine leaves_cons (f:=11) (args:=#[.pointer (some g1),.pointer (some g2),.pointer (some g3)]) (by simp) (by simp[go_sem]) ?_;refine (JE g1 g2 g3 a er U w aw hn.1 hn.2.1 hn.2.2.1 b1 b2 b3 hn.2.2.2.1 hn.2.2.2.2.1 hn.2.2.2.2.2 []).mono ?_;rintro e u' w'' ⟨rfl,rfl,a1,j,c2,c3⟩;have R:w''.cell? g1=some (.slice none 0 0):=by rw[j.cell];rfl
 have J:w''.cell? ⟨g1,1,none⟩=some (.slice none 0 0):=by rw[j.cell];rfl
 have I:w''.cell? g2=some (.int .i64 a):=by rw[c2.cell];rfl
 have o:w''.cell? g3=some (.int .i64 er):=by rw[c3.cell];rfl
 have hp:Mi s w (.returned (.tuple #[.agg #[.slice none 0 0,.slice none 0 0],a,er])) w'':=⟨a1,_,a,er,rfl,.inl ⟨he,rfl,hbad⟩⟩;simp[Leaves,settle,results,results5,go_sem,t2,t3,t4,R,J,I,o];exact hp
theorem Ev {s:ByteArray} {w U:World} {g1 g2 g3:Nat} {u1 u2:Value} {a er:Int} {tm:Array Value} (y1:U.cell? g1=some u1) (y2:U.cell? ⟨g1,1,none⟩=some u2) (y3:U.cell? g2=some (.int .i64 a)) (y4:U.cell? g3=some (.int .i64 er)) (l1:Le (g1+1) U) (l2:Le (g2+1) U) (l3:Le (g3+1) U)
  (hp:∀U',ik U U'->Mi s w (.returned (.tuple #[.agg #[u1,u2],a,er])) U')
  (t2:tm[2]?=some (.pointer (some g1))) (t3:tm[3]?=some (.pointer (some g2))) (t4:tm[4]?=some (.pointer (some g3))) :
  bodyPostD prog f5 (Mi s w) Exit.ret { tmps:=tm,defers:=[{ target:=Target.fn (Fn.func 11) #[.pointer (some g1),.pointer (some g2),.pointer (some g3)],args:=#[] }] } U:=by
 refine leaves_cons (f:=11) (args:=#[.pointer (some g1),.pointer (some g2),.pointer (some g3)]) (by simp) (by simp[go_sem]) ?_;refine (Hd ⟨g1,0,none⟩ ⟨g2,0,none⟩ ⟨g3,0,none⟩ _).mono ?_;rintro e I j ⟨rfl,rfl,o⟩;have hp:=hp j o;obtain⟨z,rfl⟩:=@jP _ _ o;simp[Leaves,settle,results,results5,go_sem,t2,t3,t4,y1,y2,y3,y4];exact hp
theorem Gi {s:ByteArray} {w U:World} {g1 g2 g3:Nat} {u1 u2:Value} {a er:Int} {tm:Array Value} (y1:U.cell? g1=some u1) (y2:U.cell? ⟨g1,1,none⟩=some u2) (y3:U.cell? g2=some (.int .i64 a)) (y4:U.cell? g3=some (.int .i64 er))
  (hp:Mi s w (.returned (.tuple #[.agg #[u1,u2],a,er])) U)
  (t2:tm[2]?=some (.pointer (some g1))) (t3:tm[3]?=some (.pointer (some g2))) (t4:tm[4]?=some (.pointer (some g3))) :
  bodyPostD prog f5 (Mi s w) Exit.ret { tmps:=tm,defers:=[] } U:=by
 simp[bodyPostD,Leaves,settle,results,results5,go_sem,t2,t3,t4,y1,y2,y3,y4];exact hp
theorem Mt {P:Program} {s:Code} {K:Act->World->Prop} {Q':Exit->Act->World->Prop} {a:Act} {w:World} (h:s.wp P (fun e a' w'=>e=.normal/\K a' w') a w):s.wp P (Exit.then K Q') a w:=by
 refine wp_mono h ?_;rintro e a' w' ⟨rfl,h⟩;exact h
theorem qt {w:World} {b i:Nat} {T:TypeId} {cs:Array Value} {v:Value} (h:iP w b T cs) (hi:cs[i]?=some v):w.setCell ⟨b,i,none⟩ v=w:=by
 have e:cs.setIfInBounds i v=cs:=by
  apply Array.ext_getElem?;intro j;rw[KY];by_cases o:i=j
  ·subst o
   have I:=(Array.getElem?_eq_some_iff.1 hi).1;rw[hi];simp[I]
  simp[o]
 have U:(w.setCell ⟨b,i,none⟩ v).heap=w.heap:=by
  apply Array.ext_getElem?;intro j;by_cases o:j=b
  ·subst o
   have R:=h.jx i v;have J:w.heap[j]?=some (.cells cs T (0,0)):=h;rw[R,J,e]
  exact Below.heap_setCell w _ v j o
 show ({ w with heap:=(w.setCell ⟨b,i,none⟩ v).heap }:World)=w
 rw[U]
section
variable {g:Nat} {W:World}
def zW (W:World) (g:Nat):Prop:=∀(o:Nat) (v:Value),W.cell? ⟨g,o,none⟩=some v->∃A n c,v=Value.slice A n c
theorem vd (hs:zW W g) {b o:Nat} {v:Value} (hb:b≠g) (h:W.cell? ⟨b,o,none⟩=some v):(iz g W).cell? ⟨b,o,none⟩=some v:=by
 rwa [Dj (w:=W) (w':=iz g W) (a:=⟨b,o,none⟩) (km W hb)]
theorem ir.Tz {α:Type} {sz:Nat} {P:World->Nat->Nat->α->Prop} {x:nB α} (h:ir sz P W x) (hP:∀b o y,P W b o y->P (iz g W) b o y):ir sz P (iz g W) x:=by
 refine⟨?_,h.le,h.cap,h.len⟩;rcases h.cells with e | ⟨b,p,e,hlt,hc⟩
 ·exact .inl e
 exact .inr ⟨b,p,e,by rw[iZ];exact hlt,fun i y j=>hP _ _ _ (hc i y j)⟩
theorem PA (hs:zW W g) {b o:Nat} {y:Tk} (h:Om W b o y):Om (iz g W) b o y:=by
 have j:b≠g:=by rintro rfl;obtain⟨A,n,c,e⟩:=hs _ _ h.c0;cases e
 exact⟨vd hs j h.c0,vd hs j h.c1,(by obtain⟨n,I,J⟩:=h.c2;exact⟨n,I,vd hs j J⟩),h.nm⟩
theorem Ni (hs:zW W g) {b o:Nat} {y:ByteArray} (h:sR W b o y):sR (iz g W) b o y:=by
 have j:b≠g:=by rintro rfl;obtain⟨A,n,c,e⟩:=hs _ _ h.1;cases e
 exact⟨vd hs j h.1,h.2⟩
theorem PR (hs:zW W g) {b o:Nat} {y:iW} (h:sM W b o y):sM (iz g W) b o y:=by
 have j:b≠g:=by rintro rfl;obtain⟨A,n,c,e⟩:=hs _ _ h.c0;cases e
 exact⟨vd hs j h.c0,vd hs j h.c1,h.nm,h.tg.Tz fun b o y=>Ni hs⟩
theorem Jh {T:TypeId} {cs:Array Value} (h:iP W g T cs) (hc:∀(i:Nat) (v:Value),cs[i]?=some v->∃A n c,v=Value.slice A n c):zW W g:=fun o v hv=>hc o v (by rw[<- h.cell];exact hv)
end
theorem Fg {w w4 w6:World} {q:Nat} (h:ik w w4) (a:ik (iz q w4) (iz q w6)) (hq:w.heap.size<=q):ik w w6:=by
 have o:=a.below.size;rw[iZ,iZ]at o;refine⟨⟨a.below.os.trans h.below.os,a.below.tape.trans h.below.tape,a.below.output.trans h.below.output,jW h.below.size o,fun b I=>?_⟩⟩;have j:b≠q:=iu;have J:=a.below.block b (by rw[iZ];exact rO I h.below.size);rw[km w6 j,km w4 j]at J;exact J.trans (h.below.block b I)
theorem ir.over {α:Type} {sz:Nat} {P:World->Nat->Nat->α->Prop} {x:nB α} {w6:World} {g q:Nat} (h:ir sz P (iz q w6) x) (hgq:g≠q) (hm:∀b o y,P (iz q w6) b o y->P (iz g (iz q w6)) b o y) (hs:Ai P) (u v:Value):ir sz P (iz q ((w6.setCell g u).setCell ⟨g,1,none⟩ v)) x:=by
 have e:iz g (iz q ((w6.setCell g u).setCell ⟨g,1,none⟩ v))=iz g (iz q w6):=by
  rw[EN _ hgq,EN _ hgq,jJ,jJ]
 have j:=h.Tz hm;rw[<- e]at j;exact j.sub hs (yI g _)
theorem xp (s:ByteArray) (hs:s.size<=140737488355328) (w:World):Calls prog 5 #[s] w (Mi s w):=by
 have br:∀(fn:Fn) (first cap:Array Value) (w:World),(Instr.makeFunc fn first cap).run prog w=.ok (.func fn first cap) w:=fun _ _ _ _=>rfl
 obtain⟨g1,ag⟩:∃g,w.heap.size=g:=⟨_,rfl⟩;obtain⟨w3,aI,a3,b1,b2,b3⟩:∃W,((w.alloc (.cells #[.slice none 0 0,.slice none 0 0] 25)).alloc (.cells #[.int .i64 0] 3)).alloc (.cells #[.int .i64 0] 26)=W/\ik w W/\iP W g1 25 #[.slice none 0 0,.slice none 0 0]/\iP W (g1+1) 3 #[.int .i64 0]/\iP W (g1+1+1) 26 #[.int .i64 0]:=by
  obtain⟨x1,ak⟩:∃z,w.alloc (.cells #[.slice none 0 0,.slice none 0 0] 25)=z:=⟨_,rfl⟩;have s1:x1.heap.size=g1+1:=by rw[<- ak,iH,ag]
  have c1:iP x1 g1 25 #[.slice none 0 0,.slice none 0 0]:=by rw[<- ak,<- ag];exact jC ..
  have e1:ik w x1:=by rw[<- ak];exact inferInstance
  rw[ak];obtain⟨x2,aj⟩:∃z,x1.alloc (.cells #[.int .i64 0] 3)=z:=⟨_,rfl⟩;have s2:x2.heap.size=g1+1+1:=by rw[<- aj,iH,s1]
  have c2:iP x2 (g1+1) 3 #[.int .i64 0]:=by rw[<- aj,<- s1];exact jC ..
  have e2:ik x1 x2:=by rw[<- aj];exact inferInstance
  rw[aj];have c3:iP (x2.alloc (.cells #[.int .i64 0] 26)) (g1+1+1) 26 #[.int .i64 0]:=by rw[<- s2];exact jC ..
  have e3:ik x2 (x2.alloc (.cells #[.int .i64 0] 26)):=inferInstance;exact⟨_,rfl,ij e1 (ij e2 e3),c1.after (k:=ij e2 e3),c2.after (k:=e3),c3⟩
 obtain⟨g2,ax⟩:∃g,g1+1=g:=⟨_,rfl⟩;obtain⟨g3,aw⟩:∃g,g1+1+1=g:=⟨_,rfl⟩;rw[ax]at b2;rw[aw]at b3;have hn:w.heap.size<=g1/\w.heap.size<=g2/\w.heap.size<=g3/\g1≠g2/\g1≠g3/\g2≠g3:=by omega
 have I:=iB hn;have HC:=iB (LY s hs w3);have aH:=iB aI;have aN:=iB ax;have aM:=iB aw;have bl:=iB ag;clear aI ax aw hn;go_enter_defers func5,ntmps5;go_wp2_with fail;try rw[ag]
 try rw[aH.out]
 rw[aM.out,aN.out];refine HC.mono ?_;clear HC;rintro e w4 ⟨a4,hX⟩;have aT:=ij a3 a4;have bu:=b1.lt;have bt:=b2.lt;have bs:=b3.lt;have B1:=b1.after (k:=a4);have B2:=b2.after (k:=a4);have B3:=b3.after (k:=a4);clear b1 b2 b3;have bf:F0 g2 g3:=⟨I.2.2.2.2.2⟩;have bd:F0 g3 g2:=⟨ls I.2.2.2.2.2⟩;have bh:F0 g1 g3:=⟨I.2.2.2.2.1⟩;have be:F0 g3 g1:=⟨ls I.2.2.2.2.1⟩;have bj:F0 g1 g2:=⟨I.2.2.2.1⟩;have bg:F0 g2 g1:=⟨ls I.2.2.2.1⟩;have bq:uD w g1:=⟨I.1⟩;have bp:uD w g2:=⟨I.2.1⟩;have bo:uD w g3:=⟨I.2.2.1⟩;clear ag;obtain⟨X,au⟩:∃X,nP s=X:=⟨_,rfl⟩;rw[au]at hX;have aa:=iB au;clear au;cases X with
 |none=>
  obtain⟨a,er,rfl,he⟩:=hX;have j:xW s:=.inl aa.out;have b':(er != 0)=true:=by simpa using he
  obtain⟨w5,aG,a5,D1,D2,D3⟩:∃z,(w4.setCell g2 (.int .i64 a)).setCell g3 (.int .i64 er)=z/\ik w z/\iP z g1 25 #[.slice none 0 0,.slice none 0 0]/\iP z g2 3 #[a]/\iP z g3 26 #[er]:=⟨_,rfl,have:=aT;inferInstance,(B1.qU (p:=⟨g2,0,none⟩) I.out.2.2.2.1 _).qU (p:=⟨g3,0,none⟩) I.out.2.2.2.2.1 _,(B2.jx 0 _).qU (p:=⟨g3,0,none⟩) I.out.2.2.2.2.2 _,(B3.qU (p:=⟨g2,0,none⟩) (ls I.out.2.2.2.2.2) _).jx 0 _⟩;have x0:=(B2.cell 0).trans rfl;have xl:=B2.is_le;have xf:=B2.frozen 0;have y0:=(B3.cell 0).trans rfl;have yl:=B3.is_le;have yf:=B3.frozen 0;have p0:=(D1.cell 0).trans rfl;have p1:=(D1.cell 1).trans rfl;have pl:=D1.is_le;have bn:=D1.frozen 0;have bm:=D1.frozen 1;have q0:=(D2.cell 0).trans rfl;have ql:=D2.is_le;have qf:=D2.frozen 0;have r0:=(D3.cell 0).trans rfl;have rl:=D3.is_le;have rf:=D3.frozen 0;have HP:Hid (Mi s w (.returned (.tuple #[.agg #[.slice none 0 0,.slice none 0 0],a,er])) w5):=⟨a5,_,a,er,rfl,.inl ⟨he,rfl,j⟩⟩;have E1:Hid (w5.setCell g1 (.slice none 0 0)=w5):=iB (qt D1 rfl);have E2:Hid (w5.setCell ⟨g1,1,none⟩ (.slice none 0 0)=w5):=iB (qt D1 rfl);have E3:Hid (w5.setCell g2 (.int .i64 a)=w5):=iB (qt D2 rfl);have E4:Hid (w5.setCell g3 (.int .i64 er)=w5):=iB (qt D3 rfl);have aF:=iB aG;clear aG B1 B2 B3 D1 D2 D3;go_wp2_with fail;rw[aF.out];have HK:Hid (∀U,ik w5 U->U.cell? g2=some (.int .i64 a)/\U.cell? g3=some (.int .i64 er)):=by
   have b8:=q0;have b7:=r0;exact fun U hU=>⟨(hU.below.cell (p:=⟨g2,0,none⟩) ql.le).trans b8,(hU.below.cell (p:=⟨g3,0,none⟩) rl.le).trans b7⟩
  refine Mt ?_;refine jm (fun U:World=>U.cell? g2=some (.int .i64 a)/\U.cell? g3=some (.int .i64 er)) [5] (by kernel_rfl) ?_;have ay:(fun U:World=>U.cell? g2=some (.int .i64 a)/\U.cell? g3=some (.int .i64 er)) w5.drew:=HK _ inferInstance;refine nZ 0 [3,4,5] (.agg #[.slice none 0 0,.slice none 0 0]) rfl (by kernel_rfl) (by kernel_rfl) (by kernel_rfl) (by kernel_rfl) (by kernel_rfl) (by kernel_rfl) (fun _ _ _ h=>nomatch h.1) (Or.inl ⟨by rfl,?_⟩) ay ?_
  ·intro U hU;try dsimp only at hU
   obtain⟨h0,h1⟩:=hU;go_simp
  try simp only[Act.put,oF,oB,oq]
  refine nZ 1 [4,5] (.int .i64 a) rfl (by kernel_rfl) (by kernel_rfl) (by kernel_rfl) (by kernel_rfl) (by kernel_rfl) (by kernel_rfl) (fun _ _ _ h=>nomatch h.1) (Or.inl ⟨by rfl,?_⟩) ay ?_
  ·intro U hU;try dsimp only at hU
   obtain⟨h0,h1⟩:=hU;go_simp
  try simp only[Act.put,oF,oB,oq]
  refine nZ 2 [5] (.int .i64 er) rfl (by kernel_rfl) (by kernel_rfl) (by kernel_rfl) (by kernel_rfl) (by kernel_rfl) (by kernel_rfl) (fun _ _ _ h=>nomatch h.1) (Or.inl ⟨by rfl,?_⟩) ay ?_
  ·intro U hU;try dsimp only at hU
   obtain⟨h0,h1⟩:=hU;go_simp
  try simp only[Act.put,oF,oB,oq]
  refine lH 3 ?_;go_simp;try simp only[E1.out,E2.out,E3.out,E4.out]
  try (first | refine⟨HK _ (iq _),?_⟩ | refine⟨fun _=>HK _ (iq _),?_⟩)
  refine lH 4 ?_;go_simp;try simp only[E1.out,E2.out,E3.out,E4.out]
  try (first | refine⟨HK _ (iq _),?_⟩ | refine⟨fun _=>HK _ (iq _),?_⟩)
  refine lH 5 ?_;go_simp;try simp only[E1.out,E2.out,E3.out,E4.out]
  try refine kL ?_
  refine iT (by kernel_rfl) ?_ _;refine⟨rfl,?_⟩;go_wp2_with fail;exact Gi p0 p1 q0 r0 (show Mi s w _ w5.drew from⟨have:=HP.1;inferInstance,_,a,er,rfl,.inl ⟨he,rfl,j⟩⟩) rfl rfl rfl
 |some ts=>
 obtain⟨A,c,q,rfl,hq,R⟩:=hX;have b_:w.heap.size<=q:=jW a3.below.size hq;have J:g1≠q/\g2≠q/\g3≠q:=by omega
 have E1:Hid (w4.setCell g2 (.int .i64 0)=w4):=iB (qt B2 rfl);have E2:Hid (w4.setCell g3 (.int .i64 0)=w4):=iB (qt B3 rfl);have x0:=(B2.cell 0).trans rfl;have xl:=B2.is_le;have xf:=B2.frozen 0;have y0:=(B3.cell 0).trans rfl;have yl:=B3.is_le;have yf:=B3.frozen 0;have HR:=iB R;have aA:=iB B1;have b5:=iB B2;have b4:=iB B3;have HC:=iB (G4 HR (k:=KF) (by have:=HR.few;unfold KF;omega));go_wp2_with fail;try simp only[E1.out,E2.out]
 refine HC.mono ?_;clear HC;rintro e w6 ⟨aZ,hE⟩;have aS:ik w w6:=Fg aT aZ b_;have D1:=kq aA J.1 aZ;have D2:=kq b5 J.2.1 aZ;have D3:=kq b4 J.2.2 aZ;have aQ:g1<w4.heap.size:=aA.lt;clear aA b5 b4;rw[sS]at hE;obtain⟨Y,hY⟩:∃Y,mE 24 [] ts=Y:=⟨_,rfl⟩;rw[hY]at hE;cases Y with
 |none=>
  obtain⟨a,er,rfl,he⟩:=hE;have j:xW s:=.inr ⟨ts,aa,.inl hY⟩;unfold oD;go_wp2_with fail;exact Am aS D1 D2 D3 I he j rfl rfl rfl
 |some y=>
 obtain⟨bw,r⟩:=y;obtain⟨el,aO,ah,a_,hE⟩:=hE;try simp only[]at aO ah hE
 subst aO;obtain⟨Z,hZ⟩:∃Z,mQ el KF 96 [] r=Z:=⟨_,rfl⟩;rw[hZ]at hE;cases Z with
 |none=>
  obtain⟨a,er,rfl,he⟩:=hE;have j:xW s:=.inr ⟨ts,aa,.inr ⟨el,r,hY,ah,a_,.inl hZ⟩⟩;unfold oD;go_wp2_with fail;exact Am aS D1 D2 D3 I he j rfl rfl rfl
 |some z=>
 obtain⟨ns,r'⟩:=z;obtain⟨⟨⟨pA,pc,pl⟩,⟨nA,nc,nl⟩⟩,i',B',bb,ba,rfl,aK,aL,av,R6,aP⟩:=hE;try simp only[]at aL av⊢
 subst aL;have bk:=iy (show pl=pl from rfl);obtain⟨w7,aE,a7,F1,F2,F3,R7,ae⟩:∃z,(w6.setCell g1 (.slice pA pl.length pc)).setCell ⟨g1,1,none⟩ (.slice nA nl.length nc)=z/\ik w z/\iP z g1 25 #[.slice pA pl.length pc,.slice nA nl.length nc]/\iP z g2 3 #[.int .i64 0]/\iP z g3 26 #[.int .i64 0]/\Rd (iz q z) q A c ts (s.size:Nat) bb ba pl z i'/\FJ True (old w4.heap.size z) ⟨⟨pA,pc,pl⟩,⟨nA,nc,nl⟩⟩:=by
  have aJ:zW (iz q w6) g1:=Jh (BR D1 J.1) fun i v hv=>by
   match i,hv with
   |0,hv=>exact⟨none,0,0,(sI hv).symm⟩
   |1,hv=>exact⟨none,0,0,(sI hv).symm⟩
   |i+2,hv=>simp at hv
  exact⟨_,rfl,inferInstance,(D1.jx 0 _).jx 1 _,(D2.qU (p:=⟨g1,0,none⟩) (ls I.2.2.2.1) _).qU (p:=⟨g1,1,none⟩) (ls I.2.2.2.1) _,(D3.qU (p:=⟨g1,0,none⟩) (ls I.2.2.2.2.1) _).qU (p:=⟨g1,1,none⟩) (ls I.2.2.2.2.1) _,
   ⟨(R6.blk.qU (p:=⟨g1,0,none⟩) (ls J.1) _).qU (p:=⟨g1,1,none⟩) (ls J.1) _,iq _,R6.le,(R6.tk.below xB R6.aft.below).over J.1 (fun b o y=>PA aJ) GC _ _,(R6.ens.below lU R6.aft.below).over J.1 (fun b o y=>PR aJ) rH _ _,R6.few,R6.num⟩,
   (aK.below (j' aQ _ _ _).below).below (j' aQ _ _ _).below⟩
 have x0:=(D1.cell 0).trans rfl;have x1:=(D1.cell 1).trans rfl;have xl:=D1.is_le;have aC:=D1.frozen 0;have aB:=D1.frozen 1;have HC:=iB (IP R7);have aD:=iB aE;have aq:=iB av;clear aE D1 D2 D3 R6 aK av;go_wp2_with fail;try rw[aD.out]
 refine HC.mono ?_;clear HC x0 x1 xl aC aB;rintro e w8 ⟨a',hF⟩;have a8:=ij a7 a';have G1:=F1.after (k:=a');have G2:=F2.after (k:=a');have G3:=F3.after (k:=a');have ad:FJ True w8 ⟨⟨pA,pc,pl⟩,⟨nA,nc,nl⟩⟩:=(ae.sub (vk _ _)).below a'.below;have ao:FJ True (old w.heap.size w8) ⟨⟨pA,pc,pl⟩,⟨nA,nc,nl⟩⟩:=(ae.sub (iS (by have:=I.1;omega) _)).below (jK a').below;rcases hF with⟨hi,rfl⟩ | ⟨hlt,hFl⟩
 ·have b9:r'=[]:=by rw[<- aP,hi];exact List.drop_length ..
  have HC:=iB (BO (w0:=w8) ad.enums ad.nodes w8 (iq _));obtain⟨V,hV⟩:∃V,nv pl nl=V:=⟨_,rfl⟩;rw[hV]at HC;obtain⟨v1,v2,v3⟩:=V;have HV:Hid ((nv pl nl).2.2=v3):=iB (by rw[hV]);simp only[]at HC;have x0:=(G1.cell 0).trans rfl;have x1:=(G1.cell 1).trans rfl;have xl:=G1.is_le;have b0:=iB G1;have aY:=iB G2;have aX:=iB G3;have aU:=iB ao;clear G1 G2 G3 ad ao hV F1 F2 F3 R7 ae;go_wp2_with fail;refine HC.mono ?_;clear HC x0 x1 xl;rintro e w9 ⟨rfl,a9⟩;obtain⟨a1,an,ai⟩:∃z,w9.alloc (.cells #[v1,v2] 35)=z/\ik w8 z:=⟨_,rfl,have:=a9;inferInstance⟩;have aR:=ij a8 ai;have I1:=b0.out.after (k:=ai);have I2:=aY.out.after (k:=ai);have I3:=aX.out.after (k:=ai);have a6:FJ True (old w.heap.size a1) ⟨⟨pA,pc,pl⟩,⟨nA,nc,nl⟩⟩:=aU.out.below (jK ai).below;clear b0 aY aX aU;have x0:=(I1.cell 0).trans rfl;have x1:=(I1.cell 1).trans rfl;have xl:=I1.is_le;have aC:=I1.frozen 0;have aB:=I1.frozen 1;have y0:=(I2.cell 0).trans rfl;have yl:=I2.is_le;have yf:=I2.frozen 0;have z0:=(I3.cell 0).trans rfl;have zl:=I3.is_le;have zf:=I3.frozen 0;have ab:=iB an;clear an;by_cases hv:v3=0
  ·subst hv
   have af:wM s ⟨⟨pA,pc,pl⟩,⟨nA,nc,nl⟩⟩:=⟨ts,r,aa.out,hY,ah,a_,by show mQ pl KF 96 [] r=some (nl.map nh.er,[]);rw[hZ,aq.out,b9],HV.out⟩;have HP:=iB (fun U (hU:ik a1 U)=>show Mi s w (.returned (.tuple #[.agg #[.slice pA pl.length pc,.slice nA nl.length nc],.int .i64 0,.int .i64 0])) U from⟨ij aR hU,_,0,0,rfl,.inr ⟨rfl,_,rfl,a6.below (jK hU).below,af⟩⟩);have E1:Hid (a1.setCell g1 (.slice pA pl.length pc)=a1):=iB (qt I1 rfl);have E2:Hid (a1.setCell ⟨g1,1,none⟩ (.slice nA nl.length nc)=a1):=iB (qt I1 rfl);have E3:Hid (a1.setCell g2 (.int .i64 0)=a1):=iB (qt I2 rfl);have E4:Hid (a1.setCell g3 (.int .i64 0)=a1):=iB (qt I3 rfl);clear I1 I2 I3 af a6;go_upto_region 8 with fail
   rw[ab.out];go_wp2_with fail;simp only[E1.out,E2.out,E3.out,E4.out];exact Ev x0 x1 y0 z0 xl yl zl HP.out rfl rfl rfl
  have j:xW s:=.inr ⟨ts,aa.out,.inr ⟨pl,r,hY,ah,a_,.inr ⟨ns,r',hZ,.inr ⟨nl,aq.out,by rw[HV.out];exact hv⟩⟩⟩⟩;have b':(v3 != 0)=true:=by simpa using hv
  obtain⟨b6,al,bc,J1,J2,J3⟩:∃z,(((a1.setCell g1 (.slice none 0 0)).setCell ⟨g1,1,none⟩ (.slice none 0 0)).setCell g2 (.int .i64 0)).setCell g3 (.int .i64 v3)=z/\ik w z/\iP z g1 25 #[.slice none 0 0,.slice none 0 0]/\iP z g2 3 #[.int .i64 0]/\iP z g3 26 #[v3]:=⟨_,rfl,inferInstance,(((I1.jx 0 _).jx 1 _).qU (p:=⟨g2,0,none⟩) I.out.2.2.2.1 _).qU (p:=⟨g3,0,none⟩) I.out.2.2.2.2.1 _,(((I2.qU (p:=⟨g1,0,none⟩) (ls I.out.2.2.2.1) _).qU (p:=⟨g1,1,none⟩) (ls I.out.2.2.2.1) _).jx 0 _).qU (p:=⟨g3,0,none⟩) I.out.2.2.2.2.2 _,(((I3.qU (p:=⟨g1,0,none⟩) (ls I.out.2.2.2.2.1) _).qU (p:=⟨g1,1,none⟩) (ls I.out.2.2.2.2.1) _).qU (p:=⟨g2,0,none⟩) (ls I.out.2.2.2.2.2) _).jx 0 _⟩;have HP:=iB (fun U (hU:ik b6 U)=>show Mi s w (.returned (.tuple #[.agg #[.slice none 0 0,.slice none 0 0],.int .i64 0,v3])) U from⟨ij bc hU,_,0,v3,rfl,.inl ⟨hv,rfl,j⟩⟩);have ar:=iB al;have az:=iB J1;have aW:=iB J2;have aV:=iB J3;clear al I1 I2 I3 J1 J2 J3 a6 j;go_upto_region 8 with fail
  rw[ab.out];go_wp2_with fail;rw[ar.out];exact Ev ((az.cell 0).trans rfl) ((az.cell 1).trans rfl) ((aW.cell 0).trans rfl) ((aV.cell 0).trans rfl) az.is_le aW.is_le aV.is_le HP rfl rfl rfl
 obtain⟨a,er,rfl,he⟩:=hFl;have j:xW s:=.inr ⟨ts,aa,.inr ⟨pl,r,hY,ah,a_,.inr ⟨ns,r',hZ,.inl (fun e=>by rw[<- aP]at e;have:=nQ List.length e;rw[nY]at this;simp at this;omega)⟩⟩⟩;unfold oD;go_wp2_with fail;exact Am a8 G1 G2 G3 I he j rfl rfl rfl
end
theorem Gp:∀{f:Nat} {s:ByteArray} {a:Nat} {ts:List Tk},sH f s a=some ts->ts.length+1<=f
 |0,s,a,ts,h=>by cases h
 |f+1,s,a,ts,h=>by
  unfold sH at h;split at h
  ·injection h with h
   rw[<- h];simp
  split at h
  ·cases h
  rename_i t c _
  cases hs:sH f s c with
  |none=>rw[hs]at h;cases h
  |some l=>
  rw[hs]at h;injection h with h
  have:=Gp hs;rw[<- h,py];omega
theorem Ob {s:ByteArray} {ts:List Tk} (h:nP s=some ts):ts.length<=65536:=by
 unfold nP at h;split at h
 ·cases h
 have:=Gp h;omega
theorem Ny:∀{m:Nat} {l l':List ByteArray} {ts r:List Tk},qH m l ts=some (l',r)->r.length<=ts.length
 |0,l,l',ts,r,h=>by cases h
 |m+1,l,l',ts,r,h=>by
  unfold qH at h;obtain⟨⟨s,r1⟩,h1,h⟩:=mW.1 h;dsimp only at h;have g1:=mm h1;split at h
  ·have g2:=Ny h
   have:r1.tail.length<=r1.length:=by rw[List.length_tail];omega
   omega
  injection h with h;injection h with h h'
  rw[<- h'];omega
theorem Ks:∀{m:Nat} {l l':List KD} {ts r:List Tk},mE m l ts=some (l',r)->r.length<=ts.length
 |m,l,l',ts,r,h=>by
  unfold mE at h;by_cases hs:jq ⟨#[116,121,112,101]⟩ ts=true
  ·rw[iG hs]at h
   have h0:=pT hs;cases m with
   |zero=>cases h
   |succ m=>
   obtain⟨⟨s,r1⟩,h1,h⟩:=mW.1 h;dsimp only at h;obtain⟨⟨_,r2⟩,h2,h⟩:=mW.1 h;dsimp only at h;obtain⟨⟨tg,r3⟩,h3,h⟩:=mW.1 h;dsimp only at h;obtain⟨⟨_,r4⟩,h4,h⟩:=mW.1 h;dsimp only at h;have g1:=mm h1;have g2:=mi h2;have g3:=Ny h3;have g4:=mi h4;have g5:=Ks (m:=m) h;omega
  rw[iV hs]at h;injection h with h;injection h with h h'
  rw[<- h'];exact js _
theorem Mg {s:ByteArray} {pg:Il} (h:wM s pg):(iY (qK pg.enums.l pg.nodes.l)).length<=140737488355328:=by
 obtain⟨ts,r,h1,U,h3,R,J,I⟩:=h;have g1:=Ob h1;have g2:=Ks U;have j:=(FB R iu J (fun n o=>by cases o)).2;rw[yh]at j;simp only[wJ]at j;exact NK I (by omega)
theorem Ei {t:ByteArray} {el:List iW} {nl:List nh} (hsc:nP t=some (toks (qK el nl))) (h6:(nv el nl).2.2=0) (hx:∀n∈nl.map nh.er,QB el n) :
  ¬xW t/\∀pg':Il,wM t pg'->el.map iW.er=pg'.enums.l.map iW.er/\nl.map nh.er=pg'.nodes.l.map nh.er:=by
 obtain⟨ab,aa,he,hn⟩:=uX h6;have hp:toks (qK el nl)=toks (el.flatMap sF)++toks (nl.flatMap (qo el)):=by unfold qK;rw[iN]
 have a6:∀J:List iW,el.map iW.er=J.map iW.er->mQ J KF 96 [] (toks (nl.flatMap (qo el)))=some (nl.map nh.er,[]):=fun J a'=>
  BH (Iw a') iI nl [] 96 (fun n a7=>⟨hn n a7,hx _ (xL a7)⟩) aa
 have a_:jq ⟨#[116,121,112,101]⟩ (toks (nl.flatMap (qo el)))=false:=by
  cases hl:nl with
  |nil=>rfl
  |cons n l=>
  have hm:n∈nl:=by rw[hl];exact nG
  obtain⟨tl,U,-⟩:=Ej (Iw (el:=el) rfl) (k:=KF) iI (hn n hm) (hx _ (xL hm));rw[pZ,iN,U];exact (jk _ _ _).trans rfl
 have a1:mE 24 [] (toks (qK el nl))=some (el.map iW.er,toks (nl.flatMap (qo el))):=by
  rw[hp];exact CE el [] 24 _ he ab a_
 refine⟨?_,?_⟩
 ·rintro (R | ⟨a8,R,o⟩)
  ·rw[hsc]at R;cases R
  rw[hsc]at R;injection R with R
  subst R;rw[a1]at o;rcases o with o | ⟨J,r',o,-,-,j⟩
  ·cases o
  injection o with o
  injection o with U e2
  subst e2;rw[a6 J U]at j;rcases j with j | ⟨ns,r',j,I⟩
  ·cases j
  injection j with j
  injection j with e3 e4
  rcases I with I | ⟨nl',e5,I⟩
  ·exact I e4.symm
  exact I (LM U (e3.trans e5.symm) h6)
 rintro pg' ⟨a8,r',g1,g2,-,-,g5,-⟩;rw[hsc]at g1;injection g1 with g1
 subst g1;rw[a1]at g2;injection g2 with g2
 injection g2 with U e2
 subst e2;rw[a6 _ U]at g5;injection g5 with g5
 injection g5 with e3 _
 exact⟨U,e3⟩
theorem Et {s t:ByteArray} {pg:Il} (h:wM s pg) (ht:t.data.toList=iY (qK pg.enums.l pg.nodes.l)) (hs:t.size<=65536) :
  ¬xW t/\∀pg':Il,wM t pg'->pg.enums.l.map iW.er=pg'.enums.l.map iW.er/\pg.nodes.l.map nh.er=pg'.nodes.l.map nh.er:=by
 obtain⟨R,r,h1,h2,U,J,I,j⟩:=h;exact Ei (Gn ht (PT j) hs) j (FB J iu I (fun n o=>by cases o)).1
end Go.Proofs.YtnigblndonocfaaGreatDoor
