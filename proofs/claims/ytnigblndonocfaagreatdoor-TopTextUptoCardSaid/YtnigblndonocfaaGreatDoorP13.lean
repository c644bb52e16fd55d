/- A part of the proof. -/
import Derived.Test.YtnigblndonocfaaGreatDoorP12
import Derived.SizedLaws
import Derived.Deep.Slices
import Derived.Laws.StructEq
import Derived.RangeFuncRecord
import Derived.Sort.QuietIn
set_option linter.unusedVariables false
set_option linter.unusedSimpArgs false
namespace Go.Proofs.YtnigblndonocfaaGreatDoor
set_option maxRecDepth 100000
set_option maxHeartbeats 6400000
open Go.RowKit Go.BigFrame Go.Proofs.Tryz
theorem xR {p:UInt8->Bool}:∀l:List UInt8,∀c∈l.takeWhile p,p c=true
 |[],c,h=>by cases h
 |a::l,c,h=>by
  rw[CZ]at h;split at h
  ·rename_i ha
   rcases uW.1 h with h | h
   ·rw[h];exact ha
   exact xR l c h
  cases h
theorem LQ {s:yB} {a b:Nat} {t:Tk} (h:oK s a=some (t,b)):Na t:=by
 unfold oK at h;intro o;split at h
 ·unfold BS Bb at h
  split at h
  ·cases h
  injection h with h
  injection h with h
  subst h;simp only[]at o;split at o<;>cases o
 split at h
 ·rename_i hd
  unfold vw rh at h;split at h
  ·cases h
  split at h
  ·cases h
  rename_i h5
  injection h with h
  injection h with h
  subst h;simp only[Bool.not_eq_true,Bool.or_eq_false_iff,decide_eq_false_iff_not]at h5;have e:(s.extract a (a+jv jw s a)).data.toList=(s.data.toList.drop a).takeWhile (fun c=>jw (c.toNat:Nat)):=by
   rw[Lib.extract_data,show a+jv jw s a-a=jv jw s a by omega];unfold jv;exact (List.prefix_iff_eq_take.1 (List.takeWhile_prefix _)).symm
  have j:(s.extract a (a+jv jw s a)).size=jv jw s a:=by
   rw[<- jr,e];rfl
  refine⟨fun c I=>?_,?_,?_⟩
  ·simp only[]at I
   rw[e]at I;exact xR (p:=fun c=>jw (c.toNat:Nat)) _ c I
  ·simp only[]
   rw[j];unfold jv;unfold qM at hd;cases hx:s.data.toList.drop a with
   |nil=>rw[hx]at hd;exact absurd hd iI
   |cons c l=>
   rw[hx,List.headD_cons]at hd;rw[CZ,iG hd];simp
  simp only[];rw[j];omega
 split at h
 ·unfold BL at h
  split at h
  ·injection h with h
   injection h with h
   subst h;cases o
  cases h
 unfold vy at h;split at h
 ·cases h
 injection h with h
 injection h with h
 subst h;cases o
theorem Ip {s:yB}:∀{f a:Nat} {ts:List Tk},sH f s a=some ts->∀t∈ts,Na t
 |0,a,ts,h=>by cases h
 |f+1,a,ts,h=>by
  unfold sH at h;split at h
  ·injection h with h
   subst h;intro t ht;cases ht
  cases ht:oK s (uh (s.size+1) s a) with
  |none=>rw[ht]at h;cases h
  |some p=>
  obtain⟨t,b⟩:=p;rw[ht]at h;simp only[]at h;cases hs:sH f s b with
  |none=>rw[hs]at h;cases h
  |some ts'=>
  rw[hs]at h;injection h with h
  subst h;intro x hx;rcases uW.1 hx with hx | hx
  ·rw[hx];exact LQ ht
  exact Ip hs x hx
theorem Hf {s:yB} {ts:List Tk} (h:nP s=some ts):∀t∈ts,Na t:=by
 unfold nP at h;split at h
 ·cases h
 exact Ip h
theorem OR {w:yM} {q:Nat} (hq:w=q) (o:Obj):ik w (iz q (w.alloc o)):=by
 have a:ik w (w.alloc o):=iR;refine⟨⟨a.below.os,a.below.tape,a.below.output,by rw[iZ];exact a.below.size,fun b j=>?_⟩⟩;rw[km _ iu];exact a.below.block b j
def Jn (s:yB) (w:yM) (r:Option (List Tk)) (e:Ending) (w':yM):Prop:=ik w w'/\match r with
 |none=>∃a er:Int,e=.returned (.tuple #[.pointer none,a,er])/\er≠0
 |some ts=>∃(A:zA) (c q:Nat),e=.returned (.tuple #[.pointer q,JX,JX])/\w<=q/\Rd (iz q w') q A c ts (s.size:Nat) none 0 [] w' 0
theorem Jn.bad {s:yB} {w w':yM} {r:Option (List Tk)} {a er:Int} (h:r=none) (aw:ik w w') (he:er≠0):Jn s w r (.returned (.tuple #[.pointer none,a,er])) w':=by subst h;exact⟨aw,a,er,rfl,he⟩
theorem Jn.ok {s:yB} {w w':yM} {r:Option (List Tk)} {ts:List Tk} {A:zA} {c q:Nat} (h:r=some ts) (aw:ik w w') (hq:w<=q) (hR:Rd (iz q w') q A c ts (s.size:Nat) none 0 [] w' 0):Jn s w r (.returned (.tuple #[.pointer q,JX,JX])) w':=by subst h;exact⟨aw,A,c,q,rfl,hq,hR⟩
theorem LY (s:yB) (hs:s.size<=140737488355328) (w:yM):Calls prog 10 #[s,()] w (Jn s w (nP s)):=by
 have HC:=iy (Nn s hs w);have HN:Hid (∀j,nP s=some j->∀t∈j,Na t):=fun j h=>Hf h
 generalize nP s=X at HC HN;go_in;go_wp2_with fail;refine HC.mono ?_;rintro e w1 ⟨a1,hX⟩;cases X with
 |none=>
  obtain⟨a,er,rfl,he,h0,h1,h2,h3⟩:=hX;go_wp2_with fail;exact jR (v:=.tuple #[.pointer none,a,er]) (by simp[results,results10,go_sem]) rfl (Jn.bad rfl a1 he)
 |some j=>
 obtain⟨A,c,rfl,hR,hl⟩:=hX;have I:=iy (HN j rfl);have HR:=iy hR;obtain⟨q,U⟩:=jt (w1.heap.size);obtain⟨w2,J,a2,B2,R2⟩:∃z,w1.alloc (.cells #[(A,j,c),(s.size:Nat),JX,()] 95)=z/\ik w z/\iP z q 95 #[(A,j,c),(s.size:Nat),(0:Nat),()]/\ir 3 Om (iz q z) ⟨A,c,j⟩:=⟨_,rfl,have:=a1;iR,by rw[<- U];exact jC ..,HR.below xB (OR U _).below⟩;have hR:=iy (show Rd (iz q w2) q A c j (s.size:Nat) none 0 [] w2 0 from⟨B2,iq _,wB _,R2,ir.nil _,hl,I⟩);have R:w<=q:=by have:=a1.below.size;omega
 have o:=iy J;go_wp2_with fail;try rw[U]
 try rw[o.out]
 exact jR (v:=.tuple #[.pointer q,JX,JX]) (by simp[results,results10,go_sem]) rfl (Jn.ok rfl a2 R hR)
section
variable {B:yM} {q:Nat} {A:zA} {c:Nat} {L:List Tk} {en:Int} {eA:zA} {ec:Nat} {el:List iW} {w:yM} {i:Nat}
def SY (w:yM) (i n:Nat) (e:Ending) (w':yM):Prop:=ik w w'/\((i=n/\e=.returned (.tuple #[]))\/(i<n/\Fl e))
theorem IP (h:Rd B q A c L en eA ec el w i):Calls prog 14 #[.pointer q] w (SY w i L):=by
 obtain⟨b1,b2,b3,b4⟩:=h.bounds;obtain⟨c0,c1,c2,c3,f2,l0⟩:=h.fields;have HF:=iy (fun U (j:ik w U)=>nj (h.after j) i iu 5);have HC:Hid (∀U,ik w U->U.cell? q=(A,L,c)/\U.cell? (q,2)=(i:Nat)/\Le (q+1) U):=fun U j=>⟨(h.after j).fields.1,(h.after j).fields.2.2.1,(h.after j).blk.is_le⟩
 by_cases hj:i<L
 ·have I:(i:Int)<(L:Int):=iu
  go_in;go_wp2_with fail;refine iE kp kp ?_;repeat (go_big_quiet_step (fail))
  refine wpQuiet_nil ?_;rintro _ ⟨R,rfl⟩;obtain⟨d0,d2,dl⟩:=HC (w.more R) iR;go_wp2_with fail;refine (HF _ iR).mono ?_;rintro e w2 ⟨⟨a,rfl⟩,a2⟩;have o:=jz a 5 iI;have a3:ik w w2:=ij zc a2;unfold oD at o⊢;go_wp2_with fail;exact⟨rfl,a3,.inr ⟨hj,o⟩⟩
 have I:¬((i:Int)<(L:Int)):=iu;have J:i=L:=iu;have HI:=iy J;go_in;go_wp2_with fail;refine iE kp kp ?_;repeat (go_big_quiet_step (fail))
 refine wpQuiet_nil ?_;rintro _ ⟨R,rfl⟩;go_wp2_with fail;go_end0;exact⟨iR,.inl ⟨HI,rfl⟩⟩
end
theorem Rf (v:Value) (w:yM):(Instr.typeAssert (Value.iface 97 v) 20 97 true).run prog w=.ok (.tuple #[v,true]) w:=by kernel_rfl
theorem I_ (a er:Int) (w:yM):Calls prog 12 #[.iface 97 (.agg #[a,er])] w fun e w'=>e=.returned (.tuple #[a,er])/\ik w w':=by
 have a1:=Rf (.agg #[a,er]);have j:=jC w 97 #[a,er];obtain⟨g,J⟩:=jt w.heap.size;obtain⟨W,R,aW⟩:∃W,w.alloc (.cells #[a,er] 97)=W/\ik w W:=⟨_,rfl,zc⟩;rw[R,J]at j;have HK:Hid (∀U,ik W U->U.cell? g=a/\U.cell? ⟨g,1,none⟩=er/\Le (g+1) U):=fun U I=>⟨((mZ (k:=I) j).cell 0).trans rfl,((mZ (k:=I) j).cell 1).trans rfl,(mZ (k:=I) j).is_le⟩
 obtain⟨k0,k1,kl⟩:=HK W (iq _);have o:=iB R;go_in;go_wp2_with fail;try rw[J]
 try rw[o.out]
 refine iE (by kernel_rfl) (by kernel_rfl) ?_;repeat (go_big_quiet_step (fail))
 refine wpQuiet_nil ?_;rintro _ ⟨y_,rfl⟩;go_wp2_with fail;exact jR (v:=.tuple #[a,er]) (by simp[results,results12,go_sem]) rfl ⟨rfl,ij aW iR⟩
theorem Eu (p q r v:Value):#[p,q,r]++((Array.replicate 10 undef).setIfInBounds 1 v).setIfInBounds 0 v=#[p,q,r,v,v,undef,undef,undef,undef,undef,undef,undef,undef]:=by kernel_rfl
theorem Hd (p q r:Addr) (w:yM) :
  CallsD prog 11 #[.pointer p,.pointer (some q),.pointer (some r)] .returning w fun e u' w'=>e=.returned (.tuple #[])/\u'=.returning/\ik w w':=by
 refine callsD_of_wpS func11 rfl fun o I j=>?_
 apply wpS_seq;apply wpS_region;simp[wpOpsS,go_sem,recoverD,j,ntmps11,Exit.thenS];refine wpS_of_wp ?_;rw[Eu];go_wp2_with fail;exact⟨rfl,_,by cases o;simp_all,.tuple #[],by simp[results,results11,go_sem],rfl,rfl,iR⟩
theorem JE (g1 g2 g3:Nat) (a er:Int) (w:yM) (W0:yM) (hw:ik W0 w) (h1:W0<=g1) (h2:W0<=g2) (h3:W0<=g3) {u1 u2 u3 u4:Value} (b1:iP w g1 25 #[u1,u2]) (b2:iP w g2 3 #[u3]) (b3:iP w g3 26 #[u4]) (n12:g1≠g2) (n13:g1≠g3) (n23:g2≠g3) (older:List PanicEntry) :
  CallsD prog 11 #[.pointer g1,.pointer g2,.pointer g3] (.panicking ({ v:=.iface 97 (.agg #[a,er]),recovered:=false }::older)) w fun e u' w'=>e=.returned (.tuple #[])/\u'=.panicking ({ v:=.iface 97 (.agg #[a,er]),recovered:=true }::older)/\ik W0 w'/\iP w' g1 25 #[(),()]/\iP w' g2 3 #[a]/\iP w' g3 26 #[er]:=by
 refine callsD_of_wpS func11 rfl fun c₀ cs hu=>?_
 apply wpS_seq;apply wpS_region;simp[wpOpsS,go_sem,recoverD,hu,ntmps11,Exit.thenS];refine wpS_of_wp ?_;rw[Eu];have a':uD W0 g1:=⟨h1⟩;have a_:uD W0 g2:=⟨h2⟩;have a8:uD W0 g3:=⟨h3⟩;obtain⟨w1,J,c1,c2,c3,a1⟩:∃z,(w.setCell g1 (.slice none 0 0)).setCell ⟨g1,1,none⟩ (.slice none 0 0)=z/\iP z g1 25 #[.slice none 0 0,.slice none 0 0]/\iP z g2 3 #[u3]/\iP z g3 26 #[u4]/\ik W0 z:=⟨_,rfl,(b1.jx 0 _).jx 1 _,(b2.qU (p:=⟨g1,0,none⟩) (ls n12) _).qU (p:=⟨g1,1,none⟩) (ls n12) _,(b3.qU (p:=⟨g1,0,none⟩) (ls n13) _).qU (p:=⟨g1,1,none⟩) (ls n13) _,inferInstance⟩;have k0:=(b1.cell 0).trans rfl;have k1:=(b1.cell 1).trans rfl;have kl:=b1.is_le;have ab:=b1.frozen 0;have aa:=b1.frozen 1;have HC:=iB (fun U=>I_ a er U);have C1:=iB c1;have C2:=iB c2;have C3:=iB c3;go_wp2_with fail;try rw[J]
 refine (HC _).mono ?_;rintro e w2 ⟨rfl,j⟩;have a3:=ij a1 j;have D1:=C1.after (k:=j);have I:=C2.after (k:=j);have o:=C3.after (k:=j);have a7:=iB ((D1.qU (p:=g2) n12 (.int .i64 a)).qU (p:=g3) n13 (.int .i64 er));have a6:=iB ((I.jx 0 (.int .i64 a)).qU (p:=g3) n23 (.int .i64 er));have R:=iB ((o.qU (p:=g2) (ls n23) (.int .i64 a)).jx 0 (.int .i64 er));have x0:=(I.cell 0).trans rfl;have xl:=I.is_le;have xf:=I.frozen 0;have y0:=(o.cell 0).trans rfl;have yl:=o.is_le;have yf:=o.frozen 0;have m1:F0 g2 g3:=⟨n23⟩;have m2:F0 g3 g2:=⟨ls n23⟩;go_wp2_with fail;exact⟨rfl,_,rfl,.tuple #[],by simp[results,results11,go_sem],rfl,rfl,zc,a7,a6,R⟩
def KF:Nat:=1310760
def xW (s:yB):Prop:=nP s=none\/∃ts,nP s=some ts/\(mE 24 [] ts=none\/∃(el:List iW) (r:List Tk),mE 24 [] ts=some (el.map iW.er,r)/\el.length<=24/\(∀u∈el,u.tags.l.length<=16)/\(mQ el KF 96 [] r=none\/∃ns r',mQ el KF 96 [] r=some (ns,r')/\(r'≠[]\/∃nl:List nh,nl.map nh.er=ns/\(nv el nl).2.2≠0)))
def wM (s:yB) (pg:Il):Prop:=∃ts r,nP s=some ts/\mE 24 [] ts=some (pg.enums.l.map iW.er,r)/\pg.enums.l.length<=24/\(∀u∈pg.enums.l,u.tags.l.length<=16)/\mQ pg.enums.l KF 96 [] r=some (pg.nodes.l.map nh.er,[])/\(nv pg.enums.l pg.nodes.l).2.2=0
def Gt (pg:Il):Value:=.agg #[(pg.enums.A,pg.enums.l,pg.enums.c),(pg.nodes.A,pg.nodes.l,pg.nodes.c)]
def Mi (s:yB) (w:yM) (e:Ending) (w':yM):Prop:=ik w w'/\∃(v:Value) (a er:Int),e=.returned (.tuple #[v,a,er])/\((er≠0/\v=.agg #[(),()]/\xW s)\/(er=0/\∃pg:Il,v=Gt pg/\FJ True (old w w') pg/\wM s pg))
theorem Am {s:yB} {w U:yM} {g1 g2 g3:Nat} {u1 u2 u3 u4:Value} {a er:Int} {tm:Array Value} (aw:ik w U) (b1:iP U g1 25 #[u1,u2]) (b2:iP U g2 3 #[u3]) (b3:iP U g3 26 #[u4]) (hn:w<=g1/\w<=g2/\w<=g3/\g1≠g2/\g1≠g3/\g2≠g3) (he:er≠0) (hbad:xW s)
  (t2:tm[2]?=some (.pointer g1)) (t3:tm[3]?=some (.pointer g2)) (t4:tm[4]?=some (.pointer g3)) :
  bodyPostD prog f5 (Mi s w) (Exit.panic [{ v:=.iface 97 (.agg #[a,er]),recovered:=false }]) { tmps:=tm,defers:=[{ target:=Target.fn (Fn.func 11) #[.pointer g1,.pointer g2,.pointer g3],args:=#[] }] } U:=by
 refine leaves_cons (f:=11) (args:=#[.pointer g1,.pointer g2,.pointer g3]) (by simp) (by simp[go_sem]) ?_;refine (JE g1 g2 g3 a er U w aw hn.1 hn.2.1 hn.2.2.1 b1 b2 b3 hn.2.2.2.1 hn.2.2.2.2.1 hn.2.2.2.2.2 []).mono ?_;rintro e u' w'' ⟨rfl,rfl,a1,j,c2,c3⟩;have R:w''.cell? g1=():=by rw[j.cell];rfl
 have J:w''.cell? (g1,1)=():=by rw[j.cell];rfl
 have I:w''.cell? g2=a:=by rw[c2.cell];rfl
 have o:w''.cell? g3=er:=by rw[c3.cell];rfl
 have hp:Mi s w (.returned (.tuple #[.agg #[(),()],a,er])) w'':=⟨a1,_,a,er,rfl,.inl ⟨he,rfl,hbad⟩⟩;simp[Leaves,settle,results,results5,go_sem,t2,t3,t4,R,J,I,o];exact hp
theorem Ev {s:yB} {w U:yM} {g1 g2 g3:Nat} {u1 u2:Value} {a er:Int} {tm:Array Value} (y1:U.cell? g1=some u1) (y2:U.cell? (g1,1)=some u2) (y3:U.cell? g2=a) (y4:U.cell? g3=er) (l1:Le (g1+1) U) (l2:Le (g2+1) U) (l3:Le (g3+1) U)
  (hp:∀U',ik U U'->Mi s w (.returned (.tuple #[.agg #[u1,u2],a,er])) U')
  (t2:tm[2]?=some (.pointer g1)) (t3:tm[3]?=some (.pointer g2)) (t4:tm[4]?=some (.pointer g3)) :
  bodyPostD prog f5 (Mi s w) Exit.ret { tmps:=tm,defers:=[{ target:=Target.fn (Fn.func 11) #[.pointer g1,.pointer g2,.pointer g3],args:=#[] }] } U:=by
 refine leaves_cons (f:=11) (args:=#[.pointer g1,.pointer g2,.pointer g3]) (by simp) (by simp[go_sem]) ?_;refine (Hd ⟨g1,0,none⟩ ⟨g2,0,none⟩ ⟨g3,0,none⟩ _).mono ?_;rintro e I j ⟨rfl,rfl,o⟩;have hp:=hp j o;obtain⟨z,rfl⟩:=@jP _ _ o;simp[Leaves,settle,results,results5,go_sem,t2,t3,t4,y1,y2,y3,y4];exact hp
theorem Gi {s:yB} {w U:yM} {g1 g2 g3:Nat} {u1 u2:Value} {a er:Int} {tm:Array Value} (y1:U.cell? g1=some u1) (y2:U.cell? (g1,1)=some u2) (y3:U.cell? g2=a) (y4:U.cell? g3=er)
  (hp:Mi s w (.returned (.tuple #[.agg #[u1,u2],a,er])) U)
  (t2:tm[2]?=some (.pointer g1)) (t3:tm[3]?=some (.pointer g2)) (t4:tm[4]?=some (.pointer g3)) :
  bodyPostD prog f5 (Mi s w) Exit.ret { tmps:=tm,defers:=[] } U:=by
 simp[bodyPostD,Leaves,settle,results,results5,go_sem,t2,t3,t4,y1,y2,y3,y4];exact hp
theorem Mt {P:Program} {s:Code} {K:Act->yM->Prop} {Q':Exit->Act->yM->Prop} {a:Act} {w:yM} (h:s.wp P (fun e a' w'=>e=.normal/\K a' w') a w):s.wp P (Exit.then K Q') a w:=by
 refine wp_mono h ?_;rintro e a' w' ⟨rfl,h⟩;exact h
theorem qt {w:yM} {b i:Nat} {T:TypeId} {cs:Array Value} {v:Value} (h:iP w b T cs) (hi:cs[i]?=some v):w.setCell (b,i) v=w:=by
 have e:cs.setIfInBounds i v=cs:=by
  apply Array.ext_getElem?;intro j;rw[KY];by_cases o:i=j
  ·subst o
   have I:=(Array.getElem?_eq_some_iff.1 hi).1;rw[hi];simp[I]
  simp[o]
 have U:(w.setCell (b,i) v).heap=w.heap:=by
  apply Array.ext_getElem?;intro j;by_cases o:j=b
  ·subst o
   have R:=h.jx i v;have J:w.heap[j]?=some (.cells cs T (0,0)):=h;rw[R,J,e]
  exact Below.heap_setCell w _ v j o
 show ({ w with heap:=(w.setCell (b,i) v).heap }:yM)=w
 rw[U]
section
variable {g:Nat} {W:yM}
def zW (W:yM) (g:Nat):Prop:=∀(o:Nat) (v:Value),W.cell? (g,o)=some v->∃A n c,v=Value.slice A n c
theorem vd (hs:zW W g) {b o:Nat} {v:Value} (hb:b≠g) (h:W.cell? (b,o)=some v):(iz g W).cell? (b,o)=some v:=by
 rwa [Dj (w:=W) (w':=iz g W) (a:=(b,o)) (km W hb)]
theorem ir.Tz {α:Type} {sz:Nat} {P:yM->Nat->Nat->α->Prop} {x:nB α} (h:ir sz P W x) (hP:∀b o y,P W b o y->P (iz g W) b o y):ir sz P (iz g W) x:=by
 refine⟨?_,h.le,h.cap,h.len⟩;rcases h.cells with e | ⟨b,p,e,hlt,hc⟩
 ·exact .inl e
 exact .inr ⟨b,p,e,by rw[iZ];exact hlt,fun i y j=>hP _ _ _ (hc i y j)⟩
theorem PA (hs:zW W g) {b o:Nat} {y:Tk} (h:Om W b o y):Om (iz g W) b o y:=by
 have j:b≠g:=by rintro rfl;obtain⟨A,n,c,e⟩:=hs _ _ h.c0;cases e
 exact⟨vd hs j h.c0,vd hs j h.c1,(by obtain⟨n,I,J⟩:=h.c2;exact⟨n,I,vd hs j J⟩),h.nm⟩
theorem Ni (hs:zW W g) {b o:Nat} {y:yB} (h:sR W b o y):sR (iz g W) b o y:=by
 have j:b≠g:=by rintro rfl;obtain⟨A,n,c,e⟩:=hs _ _ h.1;cases e
 exact⟨vd hs j h.1,h.2⟩
theorem PR (hs:zW W g) {b o:Nat} {y:iW} (h:sM W b o y):sM (iz g W) b o y:=by
 have j:b≠g:=by rintro rfl;obtain⟨A,n,c,e⟩:=hs _ _ h.c0;cases e
 exact⟨vd hs j h.c0,vd hs j h.c1,h.nm,h.tg.Tz fun b o y=>Ni hs⟩
theorem Jh {T:TypeId} {cs:Array Value} (h:iP W g T cs) (hc:∀(i:Nat) (v:Value),cs[i]?=some v->∃A n c,v=Value.slice A n c):zW W g:=fun o v hv=>hc o v (by rw[<- h.cell];exact hv)
end
theorem Fg {w w4 w6:yM} {q:Nat} (h:ik w w4) (a:ik (iz q w4) (iz q w6)) (hq:w<=q):ik w w6:=by
 have o:=a.below.size;rw[iZ,iZ]at o;refine⟨⟨a.below.os.trans h.below.os,a.below.tape.trans h.below.tape,a.below.output.trans h.below.output,jW h.below.size o,fun b I=>?_⟩⟩;have j:b≠q:=iu;have J:=a.below.block b (by rw[iZ];exact rO I h.below.size);rw[km w6 j,km w4 j]at J;exact J.trans (h.below.block b I)
theorem ir.over {α:Type} {sz:Nat} {P:yM->Nat->Nat->α->Prop} {x:nB α} {w6:yM} {g q:Nat} (h:ir sz P (iz q w6) x) (hgq:g≠q) (hm:∀b o y,P (iz q w6) b o y->P (iz g (iz q w6)) b o y) (hs:Ai P) (u v:Value):ir sz P (iz q ((w6.setCell g u).setCell (g,1) v)) x:=by
 have e:iz g (iz q ((w6.setCell g u).setCell (g,1) v))=iz g (iz q w6):=by
  rw[EN _ hgq,EN _ hgq,jJ,jJ]
 have j:=h.Tz hm;rw[<- e]at j;exact j.sub hs (yI g _)
theorem xp (s:ByteArray) (hs:s.size<=140737488355328) (w:World):Calls prog 5 #[s] w (Mi s w):=by
 have br:∀(fn:Fn) (first cap:Array Value) (w:World),(Instr.makeFunc fn first cap).run prog w=.ok (.func fn first cap) w:=fun _ _ _ _=>rfl
 obtain⟨g1,ag⟩:∃g,w.heap.size=g:=⟨_,rfl⟩;obtain⟨w3,aI,a3,b1,b2,b3⟩:∃W,((w.alloc (.cells #[.slice none 0 0,.slice none 0 0] 25)).alloc (.cells #[.int .i64 0] 3)).alloc (.cells #[.int .i64 0] 26)=W/\ik w W/\iP W g1 25 #[.slice none 0 0,.slice none 0 0]/\iP W (g1+1) 3 #[.int .i64 0]/\iP W (g1+1+1) 26 #[.int .i64 0]:=by
  obtain⟨x1,ak⟩:∃z,w.alloc (.cells #[.slice none 0 0,.slice none 0 0] 25)=z:=⟨_,rfl⟩;have s1:x1.heap.size=g1+1:=by rw[<- ak,iH,ag]
  have c1:iP x1 g1 25 #[.slice none 0 0,.slice none 0 0]:=by rw[<- ak,<- ag];exact jC ..
  have e1:ik w x1:=by rw[<- ak];exact inferInstance
  rw[ak];obtain⟨x2,aj⟩:∃z,x1.alloc (.cells #[.int .i64 0] 3)=z:=⟨_,rfl⟩;have s2:x2.heap.size=g1+1+1:=by rw[<- aj,iH,s1]
  have c2:iP x2 (g1+1) 3 #[.int .i64 0]:=by rw[<- aj,<- s1];exact jC ..
  have e2:ik x1 x2:=by rw[<- aj];exact inferInstance
  rw[aj];have c3:iP (x2.alloc (.cells #[.int .i64 0] 26)) (g1+1+1) 26 #[.int .i64 0]:=by rw[<- s2];exact jC ..
  have e3:ik x2 (x2.alloc (.cells #[.int .i64 0] 26)):=inferInstance;exact⟨_,rfl,ij e1 (ij e2 e3),c1.after (k:=ij e2 e3),c2.after (k:=e3),c3⟩
 obtain⟨g2,ax⟩:∃g,g1+1=g:=⟨_,rfl⟩;obtain⟨g3,aw⟩:∃g,g1+1+1=g:=⟨_,rfl⟩;rw[ax]at b2;rw[aw]at b3;have hn:w.heap.size<=g1/\w.heap.size<=g2/\w.heap.size<=g3/\g1≠g2/\g1≠g3/\g2≠g3:=by omega
 have I:=iB hn;have HC:=iB (LY s hs w3);have aH:=iB aI;have aN:=iB ax;have aM:=iB aw;have bl:=iB ag;clear aI ax aw hn;go_enter_defers func5,ntmps5;go_wp2_with fail;try rw[ag]
 try rw[aH.out]
 rw[aM.out,aN.out];refine HC.mono ?_;clear HC;rintro e w4 ⟨a4,hX⟩;have aT:=ij a3 a4;have bu:=b1.lt;have bt:=b2.lt;have bs:=b3.lt;have B1:=b1.after (k:=a4);have B2:=b2.after (k:=a4);have B3:=b3.after (k:=a4);clear b1 b2 b3;have bf:F0 g2 g3:=⟨I.2.2.2.2.2⟩;have bd:F0 g3 g2:=⟨ls I.2.2.2.2.2⟩;have bh:F0 g1 g3:=⟨I.2.2.2.2.1⟩;have be:F0 g3 g1:=⟨ls I.2.2.2.2.1⟩;have bj:F0 g1 g2:=⟨I.2.2.2.1⟩;have bg:F0 g2 g1:=⟨ls I.2.2.2.1⟩;have bq:uD w g1:=⟨I.1⟩;have bp:uD w g2:=⟨I.2.1⟩;have bo:uD w g3:=⟨I.2.2.1⟩;clear ag;obtain⟨X,au⟩:∃X,nP s=X:=⟨_,rfl⟩;rw[au]at hX;have aa:=iB au;clear au;cases X with
 |none=>
  obtain⟨a,er,rfl,he⟩:=hX;have j:xW s:=.inl aa.out;have b':(er != 0)=true:=by simpa using he
  obtain⟨w5,aG,a5,D1,D2,D3⟩:∃z,(w4.setCell g2 (.int .i64 a)).setCell g3 (.int .i64 er)=z/\ik w z/\iP z g1 25 #[.slice none 0 0,.slice none 0 0]/\iP z g2 3 #[a]/\iP z g3 26 #[er]:=⟨_,rfl,have:=aT;inferInstance,(B1.qU (p:=⟨g2,0,none⟩) I.out.2.2.2.1 _).qU (p:=⟨g3,0,none⟩) I.out.2.2.2.2.1 _,(B2.jx 0 _).qU (p:=⟨g3,0,none⟩) I.out.2.2.2.2.2 _,(B3.qU (p:=⟨g2,0,none⟩) (ls I.out.2.2.2.2.2) _).jx 0 _⟩;have x0:=(B2.cell 0).trans rfl;have xl:=B2.is_le;have xf:=B2.frozen 0;have y0:=(B3.cell 0).trans rfl;have yl:=B3.is_le;have yf:=B3.frozen 0;have p0:=(D1.cell 0).trans rfl;have p1:=(D1.cell 1).trans rfl;have pl:=D1.is_le;have bn:=D1.frozen 0;have bm:=D1.frozen 1;have q0:=(D2.cell 0).trans rfl;have ql:=D2.is_le;have qf:=D2.frozen 0;have r0:=(D3.cell 0).trans rfl;have rl:=D3.is_le;have rf:=D3.frozen 0;have HP:Hid (Mi s w (.returned (.tuple #[.agg #[.slice none 0 0,.slice none 0 0],a,er])) w5):=⟨a5,_,a,er,rfl,.inl ⟨he,rfl,j⟩⟩;have E1:Hid (w5.setCell g1 (.slice none 0 0)=w5):=iB (qt D1 rfl);have E2:Hid (w5.setCell ⟨g1,1,none⟩ (.slice none 0 0)=w5):=iB (qt D1 rfl);have E3:Hid (w5.setCell g2 (.int .i64 a)=w5):=iB (qt D2 rfl);have E4:Hid (w5.setCell g3 (.int .i64 er)=w5):=iB (qt D3 rfl);have aF:=iB aG;clear aG B1 B2 B3 D1 D2 D3;go_wp2_with fail;rw[aF.out];have HK:Hid (∀U,ik w5 U->U.cell? g2=some (.int .i64 a)/\U.cell? g3=some (.int .i64 er)):=by
   have b8:=q0;have b7:=r0;exact fun U hU=>⟨(hU.below.cell (p:=⟨g2,0,none⟩) ql.le).trans b8,(hU.below.cell (p:=⟨g3,0,none⟩) rl.le).trans b7⟩
  refine Mt ?_;refine jm (fun U:World=>U.cell? g2=some (.int .i64 a)/\U.cell? g3=some (.int .i64 er)) [5] (by kernel_rfl) ?_;have ay:(fun U:World=>U.cell? g2=some (.int .i64 a)/\U.cell? g3=some (.int .i64 er)) w5.drew:=HK _ inferInstance;refine nZ 0 [3,4,5] (.agg #[.slice none 0 0,.slice none 0 0]) rfl (by kernel_rfl) (by kernel_rfl) (by kernel_rfl) (by kernel_rfl) (by kernel_rfl) (by kernel_rfl) (fun _ _ _ h=>nomatch h.1) (Or.inl ⟨by rfl,?_⟩) ay ?_
  ·intro U hU;try dsimp only at hU
   obtain⟨h0,h1⟩:=hU;go_simp
  try simp only[Act.put,oF,oB,oq]
  refine nZ 1 [4,5] (.int .i64 a) rfl (by kernel_rfl) (by kernel_rfl) (by kernel_rfl) (by kernel_rfl) (by kernel_rfl) (by kernel_rfl) (fun _ _ _ h=>nomatch h.1) (Or.inl ⟨by rfl,?_⟩) ay ?_
  ·intro U hU;try dsimp only at hU
   obtain⟨h0,h1⟩:=hU;go_simp
  try simp only[Act.put,oF,oB,oq]
  refine nZ 2 [5] (.int .i64 er) rfl (by kernel_rfl) (by kernel_rfl) (by kernel_rfl) (by kernel_rfl) (by kernel_rfl) (by kernel_rfl) (fun _ _ _ h=>nomatch h.1) (Or.inl ⟨by rfl,?_⟩) ay ?_
  ·intro U hU;try dsimp only at hU
   obtain⟨h0,h1⟩:=hU;go_simp
  try simp only[Act.put,oF,oB,oq]
  refine lH 3 ?_;go_simp;try simp only[E1.out,E2.out,E3.out,E4.out]
  try (first | refine⟨HK _ (iq _),?_⟩ | refine⟨fun _=>HK _ (iq _),?_⟩)
  refine lH 4 ?_;go_simp;try simp only[E1.out,E2.out,E3.out,E4.out]
  try (first | refine⟨HK _ (iq _),?_⟩ | refine⟨fun _=>HK _ (iq _),?_⟩)
  refine lH 5 ?_;go_simp;try simp only[E1.out,E2.out,E3.out,E4.out]
  try refine kL ?_
  refine iT (by kernel_rfl) ?_ _;refine⟨rfl,?_⟩;go_wp2_with fail;exact Gi p0 p1 q0 r0 (show Mi s w _ w5.drew from⟨have:=HP.1;inferInstance,_,a,er,rfl,.inl ⟨he,rfl,j⟩⟩) rfl rfl rfl
 |some ts=>
 obtain⟨A,c,q,rfl,hq,R⟩:=hX;have b_:w.heap.size<=q:=jW a3.below.size hq;have J:g1≠q/\g2≠q/\g3≠q:=by omega
 have E1:Hid (w4.setCell g2 (.int .i64 0)=w4):=iB (qt B2 rfl);have E2:Hid (w4.setCell g3 (.int .i64 0)=w4):=iB (qt B3 rfl);have x0:=(B2.cell 0).trans rfl;have xl:=B2.is_le;have xf:=B2.frozen 0;have y0:=(B3.cell 0).trans rfl;have yl:=B3.is_le;have yf:=B3.frozen 0;have HR:=iB R;have aA:=iB B1;have b5:=iB B2;have b4:=iB B3;have HC:=iB (G4 HR (k:=KF) (by have:=HR.few;unfold KF;omega));go_wp2_with fail;try simp only[E1.out,E2.out]
 refine HC.mono ?_;clear HC;rintro e w6 ⟨aZ,hE⟩;have aS:ik w w6:=Fg aT aZ b_;have D1:=kq aA J.1 aZ;have D2:=kq b5 J.2.1 aZ;have D3:=kq b4 J.2.2 aZ;have aQ:g1<w4.heap.size:=aA.lt;clear aA b5 b4;rw[sS]at hE;obtain⟨Y,hY⟩:∃Y,mE 24 [] ts=Y:=⟨_,rfl⟩;rw[hY]at hE;cases Y with
 |none=>
  obtain⟨a,er,rfl,he⟩:=hE;have j:xW s:=.inr ⟨ts,aa,.inl hY⟩;unfold oD;go_wp2_with fail;exact Am aS D1 D2 D3 I he j rfl rfl rfl
 |some y=>
 obtain⟨bw,r⟩:=y;obtain⟨el,aO,ah,a_,hE⟩:=hE;try simp only[]at aO ah hE
 subst aO;obtain⟨Z,hZ⟩:∃Z,mQ el KF 96 [] r=Z:=⟨_,rfl⟩;rw[hZ]at hE;cases Z with
 |none=>
  obtain⟨a,er,rfl,he⟩:=hE;have j:xW s:=.inr ⟨ts,aa,.inr ⟨el,r,hY,ah,a_,.inl hZ⟩⟩;unfold oD;go_wp2_with fail;exact Am aS D1 D2 D3 I he j rfl rfl rfl
 |some z=>
 obtain⟨ns,r'⟩:=z;obtain⟨⟨⟨pA,pc,pl⟩,⟨nA,nc,nl⟩⟩,i',B',bb,ba,rfl,aK,aL,av,R6,aP⟩:=hE;try simp only[]at aL av⊢
 subst aL;have bk:=iy (show pl=pl from rfl);obtain⟨w7,aE,a7,F1,F2,F3,R7,ae⟩:∃z,(w6.setCell g1 (.slice pA pl.length pc)).setCell ⟨g1,1,none⟩ (.slice nA nl.length nc)=z/\ik w z/\iP z g1 25 #[.slice pA pl.length pc,.slice nA nl.length nc]/\iP z g2 3 #[.int .i64 0]/\iP z g3 26 #[.int .i64 0]/\Rd (iz q z) q A c ts (s.size:Nat) bb ba pl z i'/\FJ True (old w4.heap.size z) ⟨⟨pA,pc,pl⟩,⟨nA,nc,nl⟩⟩:=by
  have aJ:zW (iz q w6) g1:=Jh (BR D1 J.1) fun i v hv=>by
   match i,hv with
   |0,hv=>exact⟨none,0,0,(sI hv).symm⟩
   |1,hv=>exact⟨none,0,0,(sI hv).symm⟩
   |i+2,hv=>simp at hv
  exact⟨_,rfl,inferInstance,(D1.jx 0 _).jx 1 _,(D2.qU (p:=⟨g1,0,none⟩) (ls I.2.2.2.1) _).qU (p:=⟨g1,1,none⟩) (ls I.2.2.2.1) _,(D3.qU (p:=⟨g1,0,none⟩) (ls I.2.2.2.2.1) _).qU (p:=⟨g1,1,none⟩) (ls I.2.2.2.2.1) _,
   ⟨(R6.blk.qU (p:=⟨g1,0,none⟩) (ls J.1) _).qU (p:=⟨g1,1,none⟩) (ls J.1) _,iq _,R6.le,(R6.tk.below xB R6.aft.below).over J.1 (fun b o y=>PA aJ) GC _ _,(R6.ens.below lU R6.aft.below).over J.1 (fun b o y=>PR aJ) rH _ _,R6.few,R6.num⟩,
   (aK.below (j' aQ _ _ _).below).below (j' aQ _ _ _).below⟩
 have x0:=(D1.cell 0).trans rfl;have x1:=(D1.cell 1).trans rfl;have xl:=D1.is_le;have aC:=D1.frozen 0;have aB:=D1.frozen 1;have HC:=iB (IP R7);have aD:=iB aE;have aq:=iB av;clear aE D1 D2 D3 R6 aK av;go_wp2_with fail;try rw[aD.out]
 refine HC.mono ?_;clear HC x0 x1 xl aC aB;rintro e w8 ⟨a',hF⟩;have a8:=ij a7 a';have G1:=F1.after (k:=a');have G2:=F2.after (k:=a');have G3:=F3.after (k:=a');have ad:FJ True w8 ⟨⟨pA,pc,pl⟩,⟨nA,nc,nl⟩⟩:=(ae.sub (vk _ _)).below a'.below;have ao:FJ True (old w.heap.size w8) ⟨⟨pA,pc,pl⟩,⟨nA,nc,nl⟩⟩:=(ae.sub (iS (by have:=I.1;omega) _)).below (jK a').below;rcases hF with⟨hi,rfl⟩ | ⟨hlt,hFl⟩
 ·have b9:r'=[]:=by rw[<- aP,hi];exact List.drop_length ..
  have HC:=iB (BO (w0:=w8) ad.enums ad.nodes w8 (iq _));obtain⟨V,hV⟩:∃V,nv pl nl=V:=⟨_,rfl⟩;rw[hV]at HC;obtain⟨v1,v2,v3⟩:=V;have HV:Hid ((nv pl nl).2.2=v3):=iB (by rw[hV]);simp only[]at HC;have x0:=(G1.cell 0).trans rfl;have x1:=(G1.cell 1).trans rfl;have xl:=G1.is_le;have b0:=iB G1;have aY:=iB G2;have aX:=iB G3;have aU:=iB ao;clear G1 G2 G3 ad ao hV F1 F2 F3 R7 ae;go_wp2_with fail;refine HC.mono ?_;clear HC x0 x1 xl;rintro e w9 ⟨rfl,a9⟩;obtain⟨a1,an,ai⟩:∃z,w9.alloc (.cells #[v1,v2] 35)=z/\ik w8 z:=⟨_,rfl,have:=a9;inferInstance⟩;have aR:=ij a8 ai;have I1:=b0.out.after (k:=ai);have I2:=aY.out.after (k:=ai);have I3:=aX.out.after (k:=ai);have a6:FJ True (old w.heap.size a1) ⟨⟨pA,pc,pl⟩,⟨nA,nc,nl⟩⟩:=aU.out.below (jK ai).below;clear b0 aY aX aU;have x0:=(I1.cell 0).trans rfl;have x1:=(I1.cell 1).trans rfl;have xl:=I1.is_le;have aC:=I1.frozen 0;have aB:=I1.frozen 1;have y0:=(I2.cell 0).trans rfl;have yl:=I2.is_le;have yf:=I2.frozen 0;have z0:=(I3.cell 0).trans rfl;have zl:=I3.is_le;have zf:=I3.frozen 0;have ab:=iB an;clear an;by_cases hv:v3=0
  ·subst hv
   have af:wM s ⟨⟨pA,pc,pl⟩,⟨nA,nc,nl⟩⟩:=⟨ts,r,aa.out,hY,ah,a_,by show mQ pl KF 96 [] r=some (nl.map nh.er,[]);rw[hZ,aq.out,b9],HV.out⟩;have HP:=iB (fun U (hU:ik a1 U)=>show Mi s w (.returned (.tuple #[.agg #[.slice pA pl.length pc,.slice nA nl.length nc],.int .i64 0,.int .i64 0])) U from⟨ij aR hU,_,0,0,rfl,.inr ⟨rfl,_,rfl,a6.below (jK hU).below,af⟩⟩);have E1:Hid (a1.setCell g1 (.slice pA pl.length pc)=a1):=iB (qt I1 rfl);have E2:Hid (a1.setCell ⟨g1,1,none⟩ (.slice nA nl.length nc)=a1):=iB (qt I1 rfl);have E3:Hid (a1.setCell g2 (.int .i64 0)=a1):=iB (qt I2 rfl);have E4:Hid (a1.setCell g3 (.int .i64 0)=a1):=iB (qt I3 rfl);clear I1 I2 I3 af a6;go_upto_region 8 with fail
   rw[ab.out];go_wp2_with fail;simp only[E1.out,E2.out,E3.out,E4.out];exact Ev x0 x1 y0 z0 xl yl zl HP.out rfl rfl rfl
  have j:xW s:=.inr ⟨ts,aa.out,.inr ⟨pl,r,hY,ah,a_,.inr ⟨ns,r',hZ,.inr ⟨nl,aq.out,by rw[HV.out];exact hv⟩⟩⟩⟩;have b':(v3 != 0)=true:=by simpa using hv
  obtain⟨b6,al,bc,J1,J2,J3⟩:∃z,(((a1.setCell g1 (.slice none 0 0)).setCell ⟨g1,1,none⟩ (.slice none 0 0)).setCell g2 (.int .i64 0)).setCell g3 (.int .i64 v3)=z/\ik w z/\iP z g1 25 #[.slice none 0 0,.slice none 0 0]/\iP z g2 3 #[.int .i64 0]/\iP z g3 26 #[v3]:=⟨_,rfl,inferInstance,(((I1.jx 0 _).jx 1 _).qU (p:=⟨g2,0,none⟩) I.out.2.2.2.1 _).qU (p:=⟨g3,0,none⟩) I.out.2.2.2.2.1 _,(((I2.qU (p:=⟨g1,0,none⟩) (ls I.out.2.2.2.1) _).qU (p:=⟨g1,1,none⟩) (ls I.out.2.2.2.1) _).jx 0 _).qU (p:=⟨g3,0,none⟩) I.out.2.2.2.2.2 _,(((I3.qU (p:=⟨g1,0,none⟩) (ls I.out.2.2.2.2.1) _).qU (p:=⟨g1,1,none⟩) (ls I.out.2.2.2.2.1) _).qU (p:=⟨g2,0,none⟩) (ls I.out.2.2.2.2.2) _).jx 0 _⟩;have HP:=iB (fun U (hU:ik b6 U)=>show Mi s w (.returned (.tuple #[.agg #[.slice none 0 0,.slice none 0 0],.int .i64 0,v3])) U from⟨ij bc hU,_,0,v3,rfl,.inl ⟨hv,rfl,j⟩⟩);have ar:=iB al;have az:=iB J1;have aW:=iB J2;have aV:=iB J3;clear al I1 I2 I3 J1 J2 J3 a6 j;go_upto_region 8 with fail
  rw[ab.out];go_wp2_with fail;rw[ar.out];exact Ev ((az.cell 0).trans rfl) ((az.cell 1).trans rfl) ((aW.cell 0).trans rfl) ((aV.cell 0).trans rfl) az.is_le aW.is_le aV.is_le HP rfl rfl rfl
 obtain⟨a,er,rfl,he⟩:=hFl;have j:xW s:=.inr ⟨ts,aa,.inr ⟨pl,r,hY,ah,a_,.inr ⟨ns,r',hZ,.inl (fun e=>by rw[<- aP]at e;have:=nQ List.length e;rw[nY]at this;simp at this;omega)⟩⟩⟩;unfold oD;go_wp2_with fail;exact Am a8 G1 G2 G3 I he j rfl rfl rfl
theorem Ei {t:yB} {el:List iW} {nl:List nh} (hsc:nP t=some (toks (qK el nl))) (h6:(nv el nl).2.2=0) (hx:∀n∈nl.map nh.er,QB el n) :
  ¬xW t/\∀pg':Il,wM t pg'->el.map iW.er=pg'.enums.l.map iW.er/\nl.map nh.er=pg'.nodes.l.map nh.er:=by
 obtain⟨ab,aa,he,hn⟩:=uX h6;have hp:toks (qK el nl)=toks (el.flatMap sF)++toks (nl.flatMap (qo el)):=by unfold qK;rw[iN]
 have a6:∀J:List iW,el.map iW.er=J.map iW.er->mQ J KF 96 [] (toks (nl.flatMap (qo el)))=some (nl.map nh.er,[]):=fun J a'=>
  BH (Iw a') iI nl [] 96 (fun n a7=>⟨hn n a7,hx _ (xL a7)⟩) aa
 have a_:jq ⟨#[116,121,112,101]⟩ (toks (nl.flatMap (qo el)))=false:=by
  cases hl:nl with
  |nil=>rfl
  |cons n l=>
  have hm:n∈nl:=by rw[hl];exact nG
  obtain⟨tl,U,-⟩:=Ej (Iw (el:=el) rfl) (k:=KF) iI (hn n hm) (hx _ (xL hm));rw[pZ,iN,U];exact (jk _ _ _).trans rfl
 have a1:mE 24 [] (toks (qK el nl))=some (el.map iW.er,toks (nl.flatMap (qo el))):=by
  rw[hp];exact CE el [] 24 _ he ab a_
 refine⟨?_,?_⟩
 ·rintro (R | ⟨a8,R,o⟩)
  ·rw[hsc]at R;cases R
  rw[hsc]at R;injection R with R
  subst R;rw[a1]at o;rcases o with o | ⟨J,r',o,-,-,j⟩
  ·cases o
  injection o with o
  injection o with U e2
  subst e2;rw[a6 J U]at j;rcases j with j | ⟨ns,r',j,I⟩
  ·cases j
  injection j with j
  injection j with e3 e4
  rcases I with I | ⟨nl',e5,I⟩
  ·exact I e4.symm
  exact I (LM U (e3.trans e5.symm) h6)
 rintro pg' ⟨a8,r',g1,g2,-,-,g5,-⟩;rw[hsc]at g1;injection g1 with g1
 subst g1;rw[a1]at g2;injection g2 with g2
 injection g2 with U e2
 subst e2;rw[a6 _ U]at g5;injection g5 with g5
 injection g5 with e3 _
 exact⟨U,e3⟩
section
open Go.ChangeShapes Go.WideShapes Go.ChangeAt Go.Joins Go.Deep
instance XS:Inhabited Tx:=⟨.mk 0 0 0 0 ⟨#[]⟩ none 0 []⟩
section
variable {H:Type} {enc:TypeId×Value->H} {P:Program} {w:yM} {base:Nat} {spare:Nat->Bool} {held:Bool}
theorem GT {w:yM} {b o:Nat} {v:Value} (h:w.cell? (b,o)=some v):b<w:=by
 rcases qa b w with a | hge
 ·exact a
 simp[World.cell?,FF hge]at h
theorem pu {w:yM} {a:Addr} {v:Value} (h:w.cell? a=some v):a=⟨a.block,a.off,none⟩:=by
 unfold World.cell? at h;split at h
 ·split at h
  ·cases h
  rename_i hs
  cases a with
  |mk b o s=>
  cases s with
  |none=>rfl
  |some s=>simp at hs
 cases h
theorem xX.of_get {w:yM} {b:Nat}:∀(l:List Tx) (o:Nat),(∀i e,l[i]?=some e->Kf w b (o+i*6) e/\RX w e)->xX w b o l
 |[],o,h=>by rw[xX];trivial
 |e::l,o,h=>by
  rw[xX];have h0:=h 0 e rfl;refine⟨by simpa using h0.1,h0.2,xX.of_get l (o+6) fun i x hi=>?_⟩;have:=h (i+1) x (by simpa using hi);rwa [show o+(i+1)*6=o+6+i*6 by omega]at this
theorem lw {e:TypeId}:∀{l:List (DataW H)} {d:DataW H},d∈l->∀n∈d.weights P e,n∈DataW.weightsAll P e l
 |a::l,d,hd,n,hn=>by
  rw[DataW.weightsAll,ue];rcases uW.1 hd with rfl | hd
  ·exact .inl hn
  exact .inr (lw hd n hn)
end
end
def ww (P:Program) (kt:TypeId) (k:Value) (es:List MapEntry):Prop:=
 ∃r,(∀w,(Instr.findKey kt k es).run P w=.ok r w)/\match r with
  |none=>∀e∈es,e.key≠k
  |some (i,v)=>∃e,es[i]?=some e/\e.key=k/\v=e.val
theorem ww.look {P:Program} {T kt et:TypeId} {k z:Value} {es:Array MapEntry} (hT:P.underlying T=some (.map kt et))
  (hk:∀w,(Instr.checkKey es.isEmpty 10000 kt k).run P w=.ok () w) (hf:ww P kt k es.toList) (hz:∀w,(zeroValue et).run P w=.ok z w) (c:Bool) :
  ∃v ok,(∀(b clock:Nat) (w:yM),w.heap[b]?=some (.map es clock)->(Instr.lookup T (.map (some b)) k c).run P w=.ok (if c then .tuple #[v,.bool ok] else v) w)/\(ok=true->∃e∈es.toList,e.key=k/\v=e.val)/\(ok=false->v=z/\∀e∈es.toList,e.key≠k):=by
 obtain⟨r,d,h⟩:=hf;have f:∀(b clock:Nat) (w:yM),w.heap[b]?=some (.map es clock)->(getObj b).run P w=.ok (.map es clock) w:=fun b c w a=>by simp[getObj,Sem.run,a]
 cases r with
 |none=>exact⟨z,false,fun b clock w a=>by simp[Instr.lookup,Sem.run_bind,Sem.run_map,run_underlying hT,f b clock w a,hk,d,hz],fun h=>(by cases h),fun _=>⟨rfl,h⟩⟩
 |some p=>
 obtain⟨i,v⟩:=p;obtain⟨e,j,g,rfl⟩:=h;exact⟨e.val,true,fun b clock w a=>by simp[Instr.lookup,Sem.run_bind,run_underlying hT,f b clock w a,hk,d],fun _=>⟨e,om j,g,rfl⟩,fun h=>(by cases h)⟩
theorem ww.put {P:Program} {T kt et:TypeId} {k v:Value} {clock:Nat} {es:Array MapEntry} (hT:P.underlying T=some (.map kt et))
  (hk:∀w,(Instr.checkKey false 10000 kt k).run P w=.ok () w) (hf:ww P kt k es.toList) (hs:Instr.sameBits 10000 k k=true) :
  ∃es' clock',(∀(b:Nat) (w:yM),w.heap[b]?=some (.map es clock)->(Instr.mapUpdate T (.map (some b)) k v).run P w=.ok () (w.putObj b (.map es' clock')))/\(∀e∈es'.toList,(e.key=k/\e.val=v)\/e∈es.toList)/\(∃e∈es'.toList,e.key=k)/\∀e∈es.toList,∃f∈es'.toList,f.key=e.key:=by
 obtain⟨r,q,h⟩:=hf;have s:∀(b:Nat) (w:yM),w.heap[b]?=some (.map es clock)->(getObj b).run P w=.ok (.map es clock) w:=fun b w g=>by simp[getObj,Sem.run,g]
 have n:∀(b:Nat) (w:yM),w.heap[b]?=some (.map es clock)->∀o,(setObj b o).run P w=.ok () (w.putObj b o):=fun b w g o=>by simp[setObj,Sem.run,g,World.putObj]
 cases r with
 |none=>
  refine⟨es.push ⟨k,v,clock⟩,clock+1,?_,fun e c=>?_,⟨_,by rw[Array.toList_push];exact List.mem_append_right _ nG,rfl⟩,fun e c=>⟨e,by rw[Array.toList_push];exact List.mem_append_left _ c,rfl⟩⟩
  ·intro b w g
   simp[Instr.mapUpdate,Sem.run_bind,run_underlying hT,s b w g,hk,q,n b w g]
  rw[Array.toList_push]at c;rcases ue.1 c with c | c
  ·exact .inr c
  rw[yw.1 c];exact .inl ⟨rfl,rfl⟩
 |some p=>
 obtain⟨i,u⟩:=p;obtain⟨e0,m,t,rfl⟩:=h;have x:es[i]?=some e0:=by rw[<- Array.getElem?_toList];exact m
 refine⟨es.modify i fun e=>{ e with key:=k,val:=v },clock,?_,fun e c=>?_,?_,fun e c=>?_⟩
 ·intro b w g
  simp[Instr.mapUpdate,Sem.run_bind,run_underlying hT,s b w g,hk,q,x,t,Instr.keyThatStays,hs,n b w g]
 ·obtain⟨j,a⟩:=List.mem_iff_getElem?.1 c
  rw[Array.toList_modify,List.getElem?_modify]at a;by_cases d:i=j
  ·subst d
   simp only[m]at a;simp at a;rw[<- a];exact .inl ⟨rfl,rfl⟩
  simp[d]at a;exact .inr (om (by rw[Array.getElem?_toList];exact a))
 ·refine⟨{ e0 with key:=k,val:=v },?_,rfl⟩
  refine om (i:=i) ?_;rw[Array.toList_modify,List.getElem?_modify,m];simp
 obtain⟨j,a⟩:=List.mem_iff_getElem?.1 c;by_cases d:i=j
 ·subst d
  rw[m]at a;injection a with a
  refine⟨{ e0 with key:=k,val:=v },?_,by rw[<- a];exact t.symm⟩;refine om (i:=i) ?_;rw[Array.toList_modify,List.getElem?_modify,m];simp
 refine⟨e,om (i:=j) ?_,rfl⟩;rw[Array.toList_modify,List.getElem?_modify,a];simp[d]
theorem Wp (s t:yB):(s==t)=decide (s=t):=by
 rw[beq_toListBytes];by_cases h:s=t
 ·subst h;simp
 have:¬s.toList=t.toList:=fun e=>h (toList_inj e)
 simp[h,this]
abbrev UH (a:Int) (s:yB):Value:=.agg #[a,s]
theorem WO (a b:Int) (s t:yB) (w:yM):(Op.equal 89 (UH a s) (UH b t)).run prog w=.ok (decide (a=b/\s=t)) w:=by
 have k:=underlying3;have n:=isAgg3;have i:=sizeOf3;have j:=underlying9;have m:=isAgg9;have h:=sizeOf9;have c:prog.underlying 89=some (.struct (prog.fieldsOf 89)):=by kernel_rfl
 show (Op.equalIn 10000 _ _ _).run _ _=_
 rw[show (10000:Nat)=9999+1 from rfl,run_equalIn_agg w 9999 89 _ _ c kp];simp only[Program.fieldsOf,underlying89];go_simp;have d:s.toList=t.toList↔s=t:=⟨toList_inj,fun e=>by rw[e]⟩;by_cases g:a=b<;>by_cases f:s=t<;>simp[g,f,d]
theorem Vn (a:Int) (s:yB):∀(es:List MapEntry) (i:Nat),(∀e∈es,∃(b:Int) (t:yB),e.key=UH b t) ->
  ∃r,(∀w,(Instr.findAsking 89 (UH a s) es i).run prog w=.ok r w)/\match r with
  |none=>∀e∈es,e.key≠UH a s
  |some (j,v)=>i<=j/\∃e,es[j-i]?=some e/\e.key=UH a s/\v=e.val
 |[],i,_=>⟨none,fun _=>rfl,fun e he=>by cases he⟩
 |e::es,i,h=>by
  obtain⟨b,t,hk⟩:=h e nG;obtain⟨r,hr,hm⟩:=Vn a s es (i+1) fun x hx=>h x (qj _ hx)
  by_cases hc:a=b/\s=t
  ·obtain⟨rfl,rfl⟩:=hc
   refine⟨some (i,e.val),?_,js _,e,by rw[Nat.sub_self];rfl,hk,rfl⟩;intro w;simp[Instr.findAsking,Sem.run_bind,hk,WO]
  refine⟨r,?_,?_⟩
  ·intro w
   simp only[Instr.findAsking,Sem.run_bind,hk,WO,hc,Result.andThen_ok];simpa using hr w
  have hne:e.key≠UH a s:=fun e1=>hc (by rw[hk]at e1;injection e1 with e1;simp at e1;exact⟨e1.1.symm,e1.2.symm⟩)
  cases r with
  |none=>
   intro x hx;rcases uW.1 hx with hx | hx
   ·rw[hx];exact hne
   exact hm x hx
  |some p=>
  obtain⟨j,v⟩:=p;obtain⟨h1,x,h2,h3⟩:=hm;refine⟨by omega,x,?_,h3⟩;rw[show j-i=(j-(i+1))+1 by omega];exact h2
theorem UR (a:Int) (s:yB) (es:List MapEntry) (h:∀e∈es,∃(b:Int) (t:yB),e.key=UH b t):ww prog 89 (UH a s) es:=by
 obtain⟨r,d,c⟩:=Vn a s es 0 h;refine⟨match es with | []=>none | _::_=>r,?_,?_⟩
 ·cases es with
  |nil=>intro w;rw[Instr.findKey,Sem.run_bind,run_underlying underlying89];rfl
  |cons e es=>intro w;rw[Instr.findKey,Sem.run_bind,run_underlying underlying89];exact d w
 cases es with
 |nil=>exact fun e f=>by cases f
 |cons e es=>
 cases r with
 |none=>exact c
 |some p=>obtain⟨j,v⟩:=p;exact c.2
theorem Vh (s:yB):∀(es:List MapEntry) (i:Nat),(∀e∈es,∃(t:yB),e.key=.string t) ->
  ∃r,Instr.findNow .string (.string s) es i=some r/\match r with
  |none=>∀e∈es,e.key≠.string s
  |some (j,v)=>i<=j/\∃e,es[j-i]?=some e/\e.key=.string s/\v=e.val
 |[],i,_=>⟨none,rfl,fun e he=>by cases he⟩
 |e::es,i,h=>by
  obtain⟨t,hk⟩:=h e nG;obtain⟨r,hr,hm⟩:=Vh s es (i+1) fun x hx=>h x (qj _ hx)
  by_cases hc:s=t
  ·subst hc
   exact⟨some (i,e.val),by simp[Instr.findNow,Instr.sameNow,hk,Wp],js _,e,by rw[Nat.sub_self];rfl,hk,rfl⟩
  refine⟨r,by simp[Instr.findNow,Instr.sameNow,hk,Wp,hc,hr],?_⟩;have hne:e.key≠.string s:=fun e1=>hc (by rw[hk]at e1;injection e1 with e1;exact e1.symm)
  cases r with
  |none=>
   intro x hx;rcases uW.1 hx with hx | hx
   ·rw[hx];exact hne
   exact hm x hx
  |some p=>
  obtain⟨j,v⟩:=p;obtain⟨h1,x,h2,h3⟩:=hm;refine⟨by omega,x,?_,h3⟩;rw[show j-i=(j-(i+1))+1 by omega];exact h2
theorem Fd (s:yB) (es:List MapEntry) (h:∀e∈es,∃(t:yB),e.key=.string t):ww prog 9 (.string s) es:=by
 obtain⟨r,b,a⟩:=Vh s es 0 h;refine⟨r,fun w=>by rw[Instr.findKey,Sem.run_bind,run_underlying underlying9,Result.andThen_ok,b];rfl,?_⟩;cases r with
 |none=>exact a
 |some p=>obtain⟨j,v⟩:=p;exact a.2
inductive Yg
 |seen
 |own9
 |flag
 |nm
 |row (b:Nat)
 |look
abbrev Yd:=Nat->Option Yg
def Xm (L:List (Int×yB)) (es:List MapEntry):Prop:=(∀e∈es,∃(a:Int) (s:yB) (v:Int),e.key=UH a s/\e.val=.int .i64 v/\0<=v/\v<=1000)/\∀t∈L,∃e∈es,e.key=UH t.1 t.2
def Vt (L:List (Int×yB)) (es:List MapEntry):Prop:=∀e∈es,∃(s:yB) (v:Bool),e.key=.string s/\e.val=.bool v/\(v=true->((0:Int),s)∉L)
def WS (B:Nat) (K:Yd) (w:yM) (b:Nat) (v:Value) (n:Nat):Prop:=∃xs:List yB,w.ownsRow B 9 1 v n (xs.map Value.string)/\∀r,v.ownBlock=some r->K r=some (.row b)
def Ws (L:List (Int×yB)) (B:Nat) (K:Yd) (w:yM) (b:Nat):Yg->Prop
 |.seen=>∃es c,w.heap[b]?=some (.map es c)/\Xm L es.toList
 |.own9=>∃es c,w.heap[b]?=some (.map es c)/\Vt L es.toList
 |.flag=>∃es c,w.heap[b]?=some (.map es c)/\Vt [] es.toList
 |.nm=>∃(up:zA) (o d:Nat) (i:Option Nat) (v:Value) (n:Nat),iP w b 140 #[.pointer up,.map (some o),.map (some d),.map i,v]/\K o=some .own9/\K d=some .flag/\(∀j,i=some j->K j=some .flag)/\(∀p,up=some p->p=⟨p.block,0,none⟩/\p.block<b/\K p.block=some .nm)/\WS B K w b v n
 |.row _=>True
 |.look=>True
structure J (L:List (Int×yB)) (B:Nat) (K:Yd) (w:yM):Prop where
 dom:∀b k,K b=some k->B<=b/\b<w.heap.size
 ok:∀b k,K b=some k->Ws L B K w b k
 le:B<=w
 geo:∀b cs,K b=some .nm->iP w b 140 cs->2<=b/\cs[1]?=some (.map (some (b-2)))/\cs[2]?=some (.map (some (b-1)))
 qU:∀r b,K r=some (.row b)->b<r
structure R (K:Yd) (w w':yM):Prop where
 os:w'.os=w.os
 tape:w'.tape=w.tape
 output:w'.output=w.output
 size:w.heap.size<=w'
 block:∀b,b<w.heap.size->K b=none->w'.heap[b]?=w.heap[b]?
def ii (K K':Yd) (n:Nat):Prop:=∀b,(b<n->K' b=K b)
section
variable {L:List (Int×yB)} {B:Nat} {K K':Yd} {w w' w'':yM} {b:Nat}
theorem R.refl (K:Yd) (w:yM):R K w w:=⟨rfl,rfl,rfl,js _,fun _ _ _=>rfl⟩
theorem R.of (a:ik w w'):R K w w':=⟨a.below.os,a.below.tape,a.below.output,a.below.size,fun b h _=>a.below.block b h⟩
theorem R.trans (h:R K w w') (e:ii K K' w) (h':R K' w' w''):R K w w'':=
 ⟨h'.os.trans h.os,h'.tape.trans h.tape,h'.output.trans h.output,jW h.size h'.size,fun b hb hk=>(h'.block b (rO hb h.size) ((e b hb).trans hk)).trans (h.block b hb hk)⟩
theorem R.after (h:R K w w') (hK:∀b k,K b=some k->w.heap.size<=b):ik w w':=
 ⟨⟨h.os,h.tape,h.output,h.size,fun b hb=>h.block b hb (by
  cases e:K b with
  |none=>rfl
  |some k=>exact absurd (hK b k e) iu)⟩⟩
theorem R.base {W0:yM} (h:R K w w') (j:∀b k,K b=some k->W0.heap.size<=b) (a:ik W0 w):ik W0 w':=
 ⟨⟨h.os.trans a.below.os,h.tape.trans a.below.tape,h.output.trans a.below.output,jW a.below.size h.size,fun b hb=>(h.block b (rO hb a.below.size) (by
  cases e:K b with
  |none=>rfl
  |some k=>exact absurd (j b k e) iu)).trans (a.below.block b hb)⟩⟩
theorem R.blk (h:R K w w') {t:TypeId} {cs:Array Value} (hb:iP w b t cs) (hk:K b=none):iP w' b t cs:=(h.block b hb.lt hk).trans hb
theorem ii.refl (K:Yd) (n:Nat):ii K K n:=fun _ _=>rfl
theorem ii.trans {K'':Yd} {n m:Nat} (h:ii K K' n) (h':ii K' K'' m) (e:n<=m):ii K K'' n:=fun b hb=>(h' b iu).trans (h b hb)
theorem ii.at {n:Nat} {k:Yg} (h:ii K K' n) (hb:b<n) (e:K b=some k):K' b=some k:=(h b hb).trans e
theorem J.Tq (j:J L B K w) (h:w<=b):K b=none:=by
 cases e:K b with
 |none=>rfl
 |some k=>exact absurd (j.dom b k e).2 iu
theorem J.keep (j:J L B K w) (hs:w.heap.size<=w') (h:∀b k,K b=some k->w'.heap[b]?=w.heap[b]?):J L B K w':=by
 refine⟨fun b k e=>⟨(j.dom b k e).1,rO (j.dom b k e).2 hs⟩,fun b k e=>?_,jW j.le hs,fun b C e u=>j.geo b C e ((h b _ e).symm.trans u),j.qU⟩;have p:=j.ok b k e;have q:=h b k e;cases k with
 |seen=>obtain⟨m,c,f,a⟩:=p;exact⟨m,c,q.trans f,a⟩
 |own9=>obtain⟨m,c,f,a⟩:=p;exact⟨m,c,q.trans f,a⟩
 |flag=>obtain⟨m,c,f,a⟩:=p;exact⟨m,c,q.trans f,a⟩
 |nm=>
  obtain⟨up,o,d,i,v,n,f,a,A,z,y,t,s,r⟩:=p;refine⟨up,o,d,i,v,n,q.trans f,a,A,z,y,t,⟨s.1,?_⟩,r⟩;rcases s.2 with x | ⟨g,cap,cur,rfl,h9,h10,h11⟩
  ·exact .inl x
  exact .inr ⟨g,cap,cur,rfl,h9,(h g _ (r g rfl)).trans h10,h11⟩
 |row _=>trivial
 |look=>trivial
theorem J.after (j:J L B K w) (a:ik w w'):J L B K w':=j.keep a.below.size fun b k e=>a.below.block b (j.dom b k e).2
theorem J.set (j:J L B K w) (hb:K b=none) (i:Nat) (v:Value):J L B K (w.setCell (b,i) v):=
 j.keep (by simp) fun c k e=>(xx.set (g:=b) w i v).block c (j.dom c k e).2 (fun h=>by rw[h,hb]at e;cases e)
theorem J.put (j:J L B K w) {k:Yg} (hk:K b=some k) (hn:k≠.nm) (hr:∀c,k≠.row c) {o:Obj} (ho:Ws L B K (w.putObj b o) b k):J L B K (w.putObj b o):=by
 have a:∀c,c≠b->(w.putObj b o).heap[c]?=w.heap[c]?:=fun c f=>World.putObj_heap_other f
 refine⟨fun c k e=>by rw[World.putObj_size];exact j.dom c k e,fun c r e=>?_,by rw[World.putObj_size];exact j.le,fun c E e f=>j.geo c E e ((a c fun D=>hn (by rw[D,hk]at e;injection e)).symm.trans f),j.qU⟩;by_cases f:c=b
 ·subst f
  rw[hk]at e;injection e with e
  rw[<- e];exact ho
 have q:=j.ok c r e;cases r with
 |seen=>obtain⟨p,d,m,h⟩:=q;exact⟨p,d,(a c f).trans m,h⟩
 |own9=>obtain⟨p,d,m,h⟩:=q;exact⟨p,d,(a c f).trans m,h⟩
 |flag=>obtain⟨p,d,m,h⟩:=q;exact⟨p,d,(a c f).trans m,h⟩
 |nm=>
  obtain⟨up,x,d,i,v,n,m,h,C,A,z,u,t,s⟩:=q;refine⟨up,x,d,i,v,n,(a c f).trans m,h,C,A,z,u,⟨t.1,?_⟩,s⟩;rcases t.2 with y | ⟨g,cap,cur,rfl,h10,h11,h12⟩
  ·exact .inl y
  refine .inr ⟨g,cap,cur,rfl,h10,(a g fun e=>?_).trans h11,h12⟩;have:=s g rfl;rw[e,hk]at this;injection this with this
  exact hr c this
 |row _=>trivial
 |look=>trivial
theorem R.put (hk:K b≠none) (o:Obj):R K w (w.putObj b o):=
 ⟨rfl,rfl,rfl,by simp,fun c hc h=>World.putObj_heap_other fun e=>hk (by rw[<- e];exact h)⟩
end
def mt (nd q E:Int):Ending:=.panicked [{ v:=.iface 81 (.agg #[nd,q,E]),recovered:=false }]
def Yj (e:Ending):Prop:=∃nd q E:Int,E≠0/\e=mt nd q E
def qr (w:yM) (g:Nat) (pe pn:Value) (nd q:Int) (sq:Nat):Prop:=iP w g 86 #[pe,pn,nd,q,.map (some sq)]
section
variable {L:List (Int×yB)} {B:Nat} {K K':Yd} {w w' w'':yM} {b g sq:Nat} {pe pn:Value} {nd q:Int}
theorem TS (h:qr w g pe pn nd q sq) (ok:Bool) (E:Int) (hE:E≠0):Calls prog 58 #[.pointer (some g),ok,E] w fun e w'=>w'=w/\if ok then e=.returned (.tuple #[]) else Yj e:=by
 cases ok with
 |true=>
  go_in;go_wp2;go_end0;exact⟨rfl,rfl⟩
 |false=>
 have d:w.cell? (g,2)=nd:=by rw[uJ h];rfl
 have c:w.cell? (g,3)=q:=by rw[uJ h];rfl
 have b:=jo h;have a:=iB hE;clear hE;go_in;go_wp2_with fail;exact⟨rfl,rfl,_,_,_,a.out,rfl⟩
theorem UO (j:J L B K w) {o:Nat} (hk:K o=some .own9) (s:yB):∃r:Bool,(∀(U:yM) [ik w U],(Instr.lookup 138 (.map (some o)) (.string s) false).run prog U=.ok (.bool r) U)/\(r=true->((0:Int),s)∉L):=by
 obtain⟨m,c,u,i⟩:=j.ok o _ hk;have f:∀(U:yM) [ik w U],U.heap[o]?=some (.map m c):=fun U a=>(a.below.block o (j.dom o _ hk).2).trans u
 obtain⟨v,ok,g,q,p⟩:=ww.look (k:=.string s) (z:=.bool false) underlying138 (fun _=>by kernel_rfl) (Fd s m.toList fun e d=>(i e d).imp fun t h=>h.choose_spec.1) (fun _=>by kernel_rfl) false;cases ok with
 |true=>
  obtain⟨e,d,b,rfl⟩:=q rfl;obtain⟨t,v,A,y,x⟩:=i e d;rw[A]at b;injection b with b
  refine⟨v,fun U a=>by rw[g o c U (f U),y];rfl,fun n=>by rw[<- b];exact x n⟩
 |false=>
 obtain⟨rfl,-⟩:=p rfl;exact⟨false,fun U a=>g o c U (f U),fun h=>by cases h⟩
theorem NE (j:J L B K w) {o:Nat} (hk:K o=some .flag) (s:yB):∃r:Bool,∀(U:yM) [ik w U],(Instr.lookup 138 (.map (some o)) (.string s) false).run prog U=.ok (.bool r) U:=by
 obtain⟨i,c,q,g⟩:=j.ok o _ hk;have d:∀(U:yM) [ik w U],U.heap[o]?=some (.map i c):=fun U a=>(a.below.block o (j.dom o _ hk).2).trans q
 obtain⟨v,ok,f,p,n⟩:=ww.look (k:=.string s) (z:=.bool false) underlying138 (fun _=>by kernel_rfl) (Fd s i.toList fun e b=>(g e b).imp fun t h=>h.choose_spec.1) (fun _=>by kernel_rfl) false;cases ok with
 |true=>
  obtain⟨e,b,m,rfl⟩:=p rfl;obtain⟨t,v,y,u,x⟩:=g e b;exact⟨v,fun U a=>by rw[f o c U (d U),u];rfl⟩
 |false=>
 obtain⟨rfl,-⟩:=n rfl;exact⟨false,fun U a=>f o c U (d U)⟩
theorem Vj (j:J L B K w) {o:Nat} (hk:K o=some .own9) (s:yB) (hs:((0:Int),s)∉L):∃O:Obj,(∀(U:yM) [ik w U],(Instr.mapUpdate 138 (.map (some o)) (.string s) (.bool true)).run prog U=.ok () (U.putObj o O))/\∀U,ik w U->J L B K (U.putObj o O):=by
 obtain⟨g,c,q,f⟩:=j.ok o _ hk;have m:∀(U:yM) [ik w U],U.heap[o]?=some (.map g c):=fun U a=>(a.below.block o (j.dom o _ hk).2).trans q
 obtain⟨d,i,p,n,u,r⟩:=ww.put (k:=.string s) (v:=.bool true) (clock:=c) underlying138 (fun _=>by kernel_rfl) (Fd s g.toList fun e b=>(f e b).imp fun t h=>h.choose_spec.1) (by simp[Instr.sameBits,Wp]);refine⟨.map d i,fun U a=>p o U (m U),fun U a=>(j.after a).put hk (by simp) (by simp) ⟨d,i,World.putObj_heap_same ((j.after a).dom o _ hk).2,fun e b=>?_⟩⟩;rcases n e b with⟨e1,e2⟩ | b
 ·exact⟨s,true,e1,e2,fun _=>hs⟩
 exact f e b
theorem Ue (j:J L B K w) {o:Nat} (hk:K o=some .flag) (s:yB):∃O:Obj,(∀(U:yM) [ik w U],(Instr.mapUpdate 138 (.map (some o)) (.string s) (.bool true)).run prog U=.ok () (U.putObj o O))/\∀U,ik w U->J L B K (U.putObj o O):=by
 obtain⟨g,c,q,f⟩:=j.ok o _ hk;have m:∀(U:yM) [ik w U],U.heap[o]?=some (.map g c):=fun U a=>(a.below.block o (j.dom o _ hk).2).trans q
 obtain⟨d,i,p,n,u,r⟩:=ww.put (k:=.string s) (v:=.bool true) (clock:=c) underlying138 (fun _=>by kernel_rfl) (Fd s g.toList fun e b=>(f e b).imp fun t h=>h.choose_spec.1) (by simp[Instr.sameBits,Wp]);refine⟨.map d i,fun U a=>p o U (m U),fun U a=>(j.after a).put hk (by simp) (by simp) ⟨d,i,World.putObj_heap_same ((j.after a).dom o _ hk).2,fun e b=>?_⟩⟩;rcases n e b with⟨e1,e2⟩ | b
 ·exact⟨s,true,e1,e2,fun _=>by simp⟩
 exact f e b
theorem IR (j:J L B K w) {o:Nat} (hk:K o=some .seen) (a:Int) (s:yB):∃(v:Int) (r:Bool),(∀(U:yM) [ik w U],(Instr.lookup 84 (.map (some o)) (UH a s) true).run prog U=.ok (.tuple #[v,r]) U)/\0<=v/\v<=1000/\(r=false->(a,s)∉L):=by
 obtain⟨p,c,A,n,g⟩:=j.ok o _ hk;have i:∀(U:yM) [ik w U],U.heap[o]?=some (.map p c):=fun U a=>(a.below.block o (j.dom o _ hk).2).trans A
 obtain⟨v,ok,m,y,x⟩:=ww.look (k:=UH a s) (z:=.int .i64 0) underlying84 (fun _=>by kernel_rfl) (UR a s p.toList fun e d=>(n e d).imp fun t h=>h.imp fun _ h=>h.choose_spec.1) (fun _=>by kernel_rfl) true;cases ok with
 |true=>
  obtain⟨e,d,b,rfl⟩:=y rfl;obtain⟨t,u,v,F,E,D,C⟩:=n e d;exact⟨v,true,fun U a=>by rw[m o c U (i U),E];rfl,D,C,fun h=>by cases h⟩
 |false=>
 obtain⟨rfl,f⟩:=x rfl;refine⟨0,false,fun U a=>m o c U (i U),by omega,by omega,fun _ q=>?_⟩;obtain⟨e,d,b⟩:=g _ q;exact f e d b
theorem V0 (j:J L B K w) {o:Nat} (hk:K o=some .seen) (a:Int) (s:yB) (v:Int) (h0:0<=v) (h9:v<=1000):∃O:Obj,(∀(U:yM) [ik w U],(Instr.mapUpdate 84 (.map (some o)) (UH a s) (.int .i64 v)).run prog U=.ok () (U.putObj o O))/\∀U,ik w U->J L B K (U.putObj o O)/\((∀b,K b≠some .own9/\(K b=some .seen->b=o))->J (L++[(a,s)]) B K (U.putObj o O)):=by
 obtain⟨C,c,P,A,u⟩:=j.ok o _ hk;have E:∀(U:yM) [ik w U],U.heap[o]?=some (.map C c):=fun U a=>(a.below.block o (j.dom o _ hk).2).trans P
 obtain⟨i,x,N,M,I,H⟩:=ww.put (k:=UH a s) (v:=.int .i64 v) (clock:=c) underlying84 (fun _=>by kernel_rfl) (UR a s C.toList fun e g=>(A e g).imp fun t h=>h.imp fun _ h=>h.choose_spec.1) (by simp[Instr.sameBits,Wp]);have p:∀(U:yM),ik w U->∀y:List (Int×yB),(∀t∈y,t∈L\/t=(a,s))->Ws y B K (U.putObj o (.map i x)) o .seen:=fun U n y F=>by
  refine⟨i,x,World.putObj_heap_same ((j.after n).dom o _ hk).2,fun e g=>?_,fun t d=>?_⟩
  ·rcases M e g with⟨e1,e2⟩ | g
   ·exact⟨a,s,v,e1,e2,h0,h9⟩
   exact A e g
  rcases F t d with d | rfl
  ·obtain⟨e,g,r⟩:=u t d
   obtain⟨f,D,G⟩:=H e g;exact⟨f,D,G.trans r⟩
  exact I
 refine⟨.map i x,fun U n=>N o U (E U),fun U n=>?_⟩;have m:=(j.after n).put hk (by simp) (by simp) (p U n L fun t h=>.inl h);refine⟨m,fun q=>⟨m.dom,fun b k e=>?_,m.le,m.geo,m.qU⟩⟩;have r:=m.ok b k e;cases k with
 |seen=>
  by_cases z:b=o
  ·subst z
   exact p U n _ fun t d=>by
    rcases ue.1 d with d | d
    ·exact .inl d
    exact .inr (yw.1 d)
  exact absurd ((q b).2 e) z
 |own9=>exact absurd e (q b).1
 |flag=>exact r
 |nm=>exact r
 |row _=>trivial
 |look=>trivial
end
def Wv:Value->Nat
 |.pointer (some a)=>a.block+1
 |_=>0
section
variable {L:List (Int×yB)} {B:Nat} {K K':Yd} {w w' w'':yM} {b g sq:Nat} {pe pn:Value} {nd q:Int}
def Vu (P:Bool->Prop) (e:Ending):Prop:=∃r:Bool,e=.returned (.bool r)/\P r
def Wr (K:Yd) (v:Value):Prop:=v=.pointer none\/∃b:Nat,v=.pointer b/\K b=some .nm
theorem Wc (s:yB) (U:yM):(Instr.lookup 138 (.map none) (.string s) false).run prog U=.ok (.bool false) U:=by kernel_rfl
theorem VE (j:J L B K w) {i:Option Nat} (hk:∀x,i=some x->K x=some .flag) (s:yB):∃r:Bool,∀(U:yM) [ik w U],(Instr.lookup 138 (.map i) (.string s) false).run prog U=.ok (.bool r) U:=by
 cases i with
 |none=>exact⟨false,fun U a=>Wc s U⟩
 |some x=>exact NE j (hk x rfl) s
theorem T_ (j:J L B K w) (hk:K b=some .nm) (s:yB):Calls prog 97 #[.pointer (some b),s] w fun e w'=>w'=w/\Vu (fun r=>r=true->((0:Int),s)∉L) e:=by
 have k:=iB j;have t:Hid (Wr K (.pointer b)):=iB (.inr ⟨b,rfl,hk⟩);clear j hk;go_in;go_wp2_with fail;go_loopw [0] (fun v wr=>wr=w/\Hid (Wr K v)) (fun v _=>Wv v)
 ·exact⟨rfl,t⟩
 case round=>
 obtain⟨rfl,hp⟩:=hrel;rcases hp.out with rfl | ⟨c,rfl,hc⟩
 ·go_wp2_with fail
  go_ret;exact⟨rfl,false,rfl,fun h=>by cases h⟩
 obtain⟨up,o,d,i,v,n,g,q,y,x,m,u⟩:=k.out.ok c _ hc;obtain⟨r,H,f⟩:=UO k.out q s;have C:=iB f;have D:=iB m;have G:wr.cell? c=some (.pointer up):=by rw[uJ g];rfl
 have F:wr.cell? (c,1)=some (.map (some o)):=by rw[uJ g];rfl
 have E:=jo g;clear g q y x m u f hc;cases r with
 |true=>
  go_wp2;go_ret;exact⟨rfl,true,rfl,by simpa using C.out⟩
 |false=>
 go_wp2_with fail;have a:Hid (Wr K (.pointer up))/\Wv (.pointer up)<Wv (.pointer c):=by
  cases up with
  |none=>exact⟨.inl rfl,Nat.succ_pos _⟩
  |some p=>
  obtain⟨A,I,z⟩:=D.out p rfl;exact⟨.inr ⟨p.block,by rw[<- A],z⟩,by show p.block+1<c+1;omega⟩
 exact⟨⟨trivial,a.1⟩,a.2⟩
theorem UT (j:J L B K w) (hk:K b=some .nm) (s:yB):Calls prog 100 #[.pointer (some b),s] w fun e w'=>w'=w/\Vu (fun _=>True) e:=by
 have g:=iB j;have u:Hid (Wr K (.pointer b)):=iB (.inr ⟨b,rfl,hk⟩);clear j hk;go_in;go_wp2_with fail;go_loopw [0] (fun v wr=>wr=w/\Hid (Wr K v)) (fun v _=>Wv v)
 ·exact⟨rfl,u⟩
 case round=>
 obtain⟨rfl,hp⟩:=hrel;rcases hp.out with rfl | ⟨c,rfl,hc⟩
 ·go_wp2_with fail
  go_ret;exact⟨rfl,false,rfl,trivial⟩
 obtain⟨up,o,d,i,v,n,f,z,m,k,h,y⟩:=g.out.ok c _ hc;obtain⟨r,I⟩:=NE g.out m s;obtain⟨t,x⟩:=VE g.out k s;have D:=iB h;have H:wr.cell? c=some (.pointer up):=by rw[uJ f];rfl
 have G:wr.cell? (c,2)=some (.map (some d)):=by rw[uJ f];rfl
 have F:wr.cell? (c,3)=some (.map i):=by rw[uJ f];rfl
 have E:=jo f;have a:Hid (Wr K (.pointer up))/\Wv (.pointer up)<Wv (.pointer c):=by
  cases up with
  |none=>exact⟨.inl rfl,Nat.succ_pos _⟩
  |some p=>
  obtain⟨C,M,A⟩:=D.out p rfl;exact⟨.inr ⟨p.block,by rw[<- C],A⟩,by show p.block+1<c+1;omega⟩
 have q:=iB a;clear f z m k h y hc a;cases r with
 |true=>
  go_wp2;go_ret;exact⟨rfl,true,rfl,trivial⟩
 |false=>
 cases t with
 |true=>
  go_wp2;go_ret;exact⟨rfl,true,rfl,trivial⟩
 |false=>
 go_wp2_with fail;exact⟨⟨trivial,q.out.1⟩,q.out.2⟩
theorem Ua (h:qr w g pe pn nd q sq) (j:J L B K w) (hk:K sq=some .seen) (a:Int) (s:yB) (i:Int) (h0:0<=i) (h9:i<=1000) :
  Calls prog 27 #[.pointer (some g),UH a s,i] w fun e w'=>R K w w'/\(Yj e\/e=.returned (.tuple #[])/\(a,s)∉L/\J L B K w'/\((∀b,K b≠some .own9/\(K b=some .seen->b=sq))->J (L++[(a,s)]) B K w')):=by
 obtain⟨w1,d⟩:=jt (w.alloc (.cells #[a,s] 89));have A:ik w w1:=by rw[<- d];infer_instance
 have n:iP w1 w 89 #[a,s]:=by rw[<- d];exact jC ..
 have p:=j.after A;obtain⟨v,r,Y,-,-,f⟩:=IR p hk a s;obtain⟨O,Z,G⟩:=V0 p hk a s i h0 h9;have m:qr w1 g pe pn nd q sq:=mZ (k:=A) h;have P:Hid (∀U,ik w1 U->_):=iB fun U o=>TS (mZ (k:=o) m) (!r) 7 iI
 have T:=iB f;have S:=iB A;have Q:=iB G;have V:Hid (K sq≠none):=iB (by rw[hk];simp);have X:Hid (∀U,ik w1 U->U.cell? (g,4)=some (.map (some sq))/\Le (g+1) U/\U.cell? w.heap.size=a/\U.cell? (w,1)=s/\Le (w+1) U):=iB fun U o=>by
  have H:=mZ (k:=o) m;have t:=mZ (k:=o) n;exact⟨by rw[uJ H];rfl,jo H,by rw[uJ t];rfl,by rw[uJ t];rfl,jo t⟩
 have D:w1.cell? (g,4)=some (.map (some sq)):=by rw[uJ m];rfl
 have C:=jo m;have N:w1.cell? w=a:=by rw[n.cell];rfl
 have M:w1.cell? (w,1)=s:=by rw[n.cell];rfl
 have I:=jo n;clear h j hk h0 h9 f G m n p;go_in;go_wp2_with fail;go_quiet (fail);go_wp2_with fail;refine (P.out _ zc).mono ?_;rintro e w3 ⟨c,F⟩;have z:ik w1 w3:=by rw[c];infer_instance
 clear c P;cases r with
 |true=>
  obtain⟨x,y,E,hE,rfl⟩:Yj e:=F;have W:=iB hE;clear hE;unfold mt;go_wp2_with fail;exact⟨rfl,R.of (ij S.out z),.inl ⟨_,_,_,W.out,rfl⟩⟩
 |false=>
 obtain rfl:e=.returned (.tuple #[]):=F;clear D C N M I;obtain⟨D,C,N,M,I⟩:=X.out w3 z;go_wp2_with fail;go_region;go_end0;have u:ik w1 w3.drew:=ij z zc;exact⟨(R.of (ij S.out u)).trans (ii.refl K _) (R.put V.out O),.inr ⟨rfl,by simpa using T.out,(Q.out _ u).1,(Q.out _ u).2⟩⟩
end
def V (K:Yd) (w:yM):yM:=kK (fun b=>(K b).isSome) w
section
variable {L:List (Int×yB)} {B:Nat} {K K':Yd} {w w' w'' D:yM} {b g sq:Nat} {pe pn:Value} {nd q:Int}
theorem R.v (h:R K w w') (e:ii K K' w):ik (V K w) (V K' w'):=
 vx h.os h.tape h.output h.size fun b hb=>⟨by rw[e b hb],fun hk=>h.block b hb (by
  cases e:K b with
  |none=>rfl
  |some k=>rw[e]at hk;cases hk)⟩
theorem V.sub (K:Yd) (w:yM):CU (V K w) w:=Ov _ w
def jp (K:Yd) (n:Nat):Yd:=fun b=>if b=n then some .own9 else if b=n+1 then some .flag else if b=n+2 then some .nm else K b
theorem Ws.mono (h:∀c k,K c=some k->K' c=some k) {k:Yg} (ho:Ws L B K w b k):Ws L B K' w b k:=by
 cases k with
 |nm=>
  obtain⟨up,o,d,i,v,n,x,u,t,s,a,e,q,m⟩:=ho;exact⟨up,o,d,i,v,n,x,h _ _ u,h _ _ t,fun j g=>h _ _ (s j g),fun p hp=>⟨(a p hp).1,(a p hp).2.1,h _ _ (a p hp).2.2⟩,e,q,fun r f=>h _ _ (m r f)⟩
 |seen=>exact ho
 |own9=>exact ho
 |flag=>exact ho
 |row _=>trivial
 |look=>trivial
theorem jp.le (j:J L B K w):∀c k,K c=some k->jp K w c=some k:=fun c k e=>by
 have:=(j.dom c k e).2;unfold jp;rw[iV iu,iV iu,iV iu];exact e
theorem jp.at {n b:Nat} (h:b<n):jp K n b=K b:=by
 unfold jp;rw[iV iu,iV iu,iV iu]
theorem J.new (j:J L B K w) (p:zA) (hp:Wr K (.pointer p)) {W:yM} (hW:W=((w.alloc (.map #[] 0)).alloc (.map #[] 0)).alloc (.cells #[.pointer p,.map (some w.heap.size),.map (some (w.heap.size+1)),.map none,()] 140)):J L B (jp K w.heap.size) W:=by
 have a:ik w W:=by rw[hW];infer_instance
 have E:W.heap.size=w+3:=by rw[hW];simp
 have z:W.heap[w.heap.size]?=some (.map #[] 0):=by
  rw[hW];refine (Below.heap_alloc _ _ _ (by simp;omega)).trans ((Below.heap_alloc _ _ _ (by simp)).trans (World.alloc_heap_new w _))
 have y:W.heap[w.heap.size+1]?=some (.map #[] 0):=by
  rw[hW];refine (Below.heap_alloc _ _ _ (by simp)).trans ?_;have:=World.alloc_heap_new (w.alloc (.map #[] 0)) (.map #[] 0);rwa [World.size_alloc]at this
 have o:iP W (w+2) 140 #[.pointer p,.map (some w.heap.size),.map (some (w+1)),.map none,()]:=by
  have:=jC ((w.alloc (.map #[] 0)).alloc (.map #[] 0)) 140 #[.pointer p,.map (some w.heap.size),.map (some (w+1)),.map none,()];rw[hW];simpa using this
 have s:=j.after a;have F:=j.le;have C:jp K w w=some .own9:=iG rfl;have A:jp K w (w+1)=some .flag:=(iV iu).trans (iG rfl);refine⟨fun b k e=>?_,fun b k e=>?_,by omega,fun b D e m=>?_,fun r b e=>?_⟩;rotate_left 2
 ·by_cases h:b<w
  ·rw[jp.at h]at e
   exact j.geo b D e ((a.below.block b h).symm.trans m)
  by_cases d:b=w+2
  ·subst d
   have:=o.symm.trans m;injection this with this
   injection this with this
   rw[<- this];exact⟨by omega,by simp,by simp⟩
  unfold jp at e;by_cases g:b=w
  ·rw[iG g]at e;cases e
  rw[iV g]at e;by_cases f:b=w+1
  ·rw[iG f]at e;cases e
  rw[iV f,iV d]at e;exact absurd (j.dom b _ e).2 iu
 ·by_cases h:r<w
  ·rw[jp.at h]at e
   exact j.qU r b e
  unfold jp at e;by_cases g:r=w
  ·rw[iG g]at e;cases e
  rw[iV g]at e;by_cases f:r=w+1
  ·rw[iG f]at e;cases e
  rw[iV f]at e;by_cases d:r=w+2
  ·rw[iG d]at e;cases e
  rw[iV d]at e;exact absurd (j.dom r _ e).2 iu
 ·by_cases h:b<w
  ·rw[jp.at h]at e
   have:=j.dom b k e;omega
  by_cases v:b<w+3
  ·omega
  unfold jp at e;rw[iV iu,iV iu,iV iu]at e;have:=j.dom b k e;omega
 by_cases h:b<w
 ·rw[jp.at h]at e
  exact Ws.mono (jp.le j) (s.ok b k e)
 unfold jp at e;by_cases g:b=w
 ·rw[iG g]at e
  injection e with e
  subst e;subst g;exact⟨#[],0,z,fun x n=>(by cases n)⟩
 rw[iV g]at e;by_cases f:b=w+1
 ·rw[iG f]at e
  injection e with e
  subst e;subst f;exact⟨#[],0,y,fun x n=>(by cases n)⟩
 rw[iV f]at e;by_cases d:b=w+2
 ·rw[iG d]at e
  injection e with e
  subst e;subst d;refine⟨p,_,_,none,_,0,o,C,A,fun j u=>(by cases u),fun q i=>?_,[],FL _ _ _ _,fun r t=>(by cases t)⟩;rcases hp with hp | ⟨c,hp,m⟩
  ·injection hp with hp
   rw[hp]at i;cases i
  injection hp with hp
  rw[hp]at i;injection i with i
  subst i;have:=j.dom c _ m;exact⟨rfl,by show c<_;omega,jp.le j _ _ m⟩
 rw[iV d]at e;exact absurd (j.dom b k e).2 iu
theorem TG (j:J L B K w) (p:zA) (hp:Wr K (.pointer p)) :
  Calls prog 59 #[.pointer p] w fun e w'=>e=.returned (.pointer (some ⟨w.heap.size+2,0,none⟩))/\ik w w'/\J L B (jp K w.heap.size) w'/\iP w' (w.heap.size+2) 140 #[.pointer p,.map (some w.heap.size),.map (some (w.heap.size+1)),.map none,.slice none 0 0]:=by
 have b:=@run_makeMap prog;go_in;have a:=iB (And.intro j hp);clear j hp;go_wp2;go_ret;exact⟨rfl,inferInstance,J.new a.out.1 p a.out.2 rfl,by simpa using jC ((w.alloc (.map #[] 0)).alloc (.map #[] 0)) 140 #[.pointer p,.map (some w.heap.size),.map (some (w.heap.size+1)),.map none,.slice none 0 0]⟩
theorem fd {α:Type} {sz:Nat} {P:yM->Nat->Nat->α->Prop} (hK:tO P) (hS:Ai P) {x:nB α} (hx:ir sz P D x) (hd:ik D (V K w)) (h:R K w w'):ir sz P w' x:=
 (hx.below hK (ij hd (h.v (ii.refl K _))).below).sub hS (V.sub K w')
theorem J.nm (j:J L B K w) (hk:K b=some .nm):∃(up:zA) (o d:Nat) (i:Option Nat) (v:Value) (n:Nat),iP w b 140 #[.pointer up,.map (some o),.map (some d),.map i,v]/\K o=some .own9/\K d=some .flag/\WS B K w b v n:=by
 obtain⟨up,o,d,i,v,n,f,e,c,h,g,a⟩:=j.ok b _ hk;exact⟨up,o,d,i,v,n,f,e,c,a⟩
theorem lm {α:Type} {P:α->Prop} {l:List α} {k:Nat} {x:α} (h:∀d∈l.take k,P d) (hk:l[k]?=some x) (hx:P x):∀d∈l.take (k+1),P d:=by
 intro d a;rw[List.take_add_one,hk]at a;rcases ue.1 a with a | a
 ·exact h d a
 rw[yw.1 a];exact hx
theorem li {α:Type} {P:α->Prop} {l:List α} {k:Nat} (h:∀d∈l.take k,P d) (hk:¬k<l.length):∀d∈l,P d:=fun d hd=>h d (by rw[Dn iu];exact hd)
def Do (K:Yd) (b:Nat) (w w':yM):Prop:=∀x,x+2<b->w'.heap[x]?=w.heap[x]?
theorem Do.refl (K:Yd) (b:Nat) (w:yM):Do K b w w:=fun _ _=>rfl
theorem Do.trans (j:J L B K w) (h:Do K b w w') (e:ii K K' w) (h':Do K' b w' w''):Do K b w w'':=fun x hx=>(h' x hx).trans (h x hx)
theorem Do.of (j:J L B K w) (hb:K b=some .nm) (a:ik w w'):Do K b w w':=fun x hx=>a.below.block x (by have:=(j.dom b _ hb).2;omega)
def VO (w:yM) (b o:Nat) (s:yB):Prop:=w.cell? (b,o)=s/\∃(t:Int) (A:zA) (n c:Nat),w.cell? (b,o+1)=t/\w.cell? (b,o+2)=(A,n,c)
theorem uI:tO VO:=fun w w' b o y hb hlt ⟨h,t,A,n,c,h1,h2⟩=>⟨(mH hb hlt).trans h,t,A,n,c,(mH hb hlt).trans h1,(mH hb hlt).trans h2⟩
theorem FS:Ai VO:=fun W w b o y hw ⟨h,t,A,n,c,h1,h2⟩=>⟨hw.cell _ _ _ h,t,A,n,c,hw.cell _ _ _ h1,hw.cell _ _ _ h2⟩
def XV (L:List (Int×yB)) (B:Nat) (K:Yd) (w:yM) (b:Nat) (l:List yB) (e:Ending) (w':yM):Prop:=Yj e\/(e=.returned (.tuple #[])/\J L B K w'/\Do K b w w'/\w'.heap[b]?=w.heap[b]?/\∀d∈l,((0:Int),d)∉L)
theorem T4 (h:qr w g pe pn nd q sq) (j:J L B K w) (hs:K sq=some .seen) (hg:K g=none) (hb:K b=some .nm) {x:nB yB} (hx:ir 3 VO D x) (hd:ik D (V K w)) :
  Calls prog 60 #[.pointer (some g),.pointer (some b),(x.A,x.l,x.c)] w fun e w'=>R K w w'/\XV L B K w b x.l e w':=by
 obtain⟨A1,c1,l⟩:=x;have XX:=iB (And.intro hx hd);have a0:=hx.len;simp only[]at a0;have HL:=iB h;have z:=iB (And.intro hs (And.intro hg hb));have HJ:=iB j;clear h j hs hg hb hx hd;go_in;go_wp2_with fail;go_loopw [12] (fun i wr=>∃k:Nat,k<=l.length/\i=.int .i64 (k:Nat)/\Hid (J L B K wr/\R K w wr/\(∀d∈l.take k,((0:Int),d)∉L)/\Do K b w wr/\wr.heap[b]?=w.heap[b]?)) (fun i _=>l.length-(intOf i).toNat)
 ·exact⟨0,by omega,rfl,HJ.out,R.refl K w,(fun d hd=>by cases hd),Do.refl K b w,rfl⟩
 case round=>
 obtain⟨k,hk,rfl,a⟩:=hrel;by_cases t:k<l
 ·have G:(k:Int)<(l:Int):=iu
  obtain⟨bj,pj,nm,rfl,a8,a1,y0,ty,cA,cn,cc,y1,y2⟩:=(fd uI FS XX.out.1 XX.out.2 a.out.2.1).part (i:=k) t;obtain⟨g2,H⟩:=jt wr.heap.size;obtain⟨p,I,X⟩:∃W,wr.alloc (.cells #[nm,ty,(cA,cn,cc)] 77)=W/\ik wr W:=⟨_,rfl,zc⟩;have u:=a.out.1.after X;obtain⟨up,o,d,ip,v,n,N1,N2,N3,N4⟩:=u.nm z.out.2.2;have L2:qr p g pe pn nd q sq:=mZ (k:=X) (a.out.2.1.blk HL.out z.out.2.1);have D2:iP p g2 77 #[nm,ty,(cA,cn,cc)]:=by rw[<- I,<- H];exact jC ..
  have HC:Hid (∀U,ik p U->U.cell? (g,4)=some (.map (some sq))/\Le (g+1) U/\U.cell? g2=nm/\Le (g2+1) U/\U.cell? (b,1)=some (.map (some o))/\Le (b+1) U):=iB fun U s=>by
   have h3:=mZ (k:=s) L2;have h4:=mZ (k:=s) D2;have h5:=mZ (k:=s) N1;exact⟨by rw[uJ h3];rfl,jo h3,by rw[uJ h4];rfl,jo h4,by rw[uJ h5];rfl,jo h5⟩
  have HM:Hid (∀ok U,ik p U->_):=iB fun ok U s=>TS (mZ (k:=s) L2) ok 7 iI
  have HS:Hid (∀U,ik p U->_):=iB fun U s=>T_ (u.after s) z.out.2.2 nm
  obtain⟨sv,r,hr,-,-,F⟩:=IR u z.out.1 0 nm;have HP:Hid (((0:Int),nm)∉L->_):=iB fun m=>Vj u N2 nm m
  have a6:Hid (r=false->((0:Int),nm)∉L):=iB F;have HO:Hid (K o=some .own9):=iB N2;have Y:=iB X;have Q:Hid (2<=b/\o=b-2):=by
   have g1:=u.geo b _ z.out.2.2 N1;exact⟨g1.1,by simpa using g1.2.1⟩
  obtain⟨k4,kl,d0,dl,n1,nl⟩:=HC.out p (iq _);clear u N1 N2 N3 N4 L2 D2 F X;go_wp2_with fail;try rw[H]
  try rw[I]
  go_quiet (fail);cases r with
  |true=>
   go_wp2_with fail;refine (HM.out _ _ zc).mono ?_;rintro e w3 ⟨f,S⟩;have N:ik p w3:=by rw[f];infer_instance
   clear f;obtain⟨x,y,E,hE,rfl⟩:Yj e:=S;have HE:=iB hE;clear hE;unfold mt;go_wp2_with fail;exact⟨rfl,a.out.2.1.trans (ii.refl K _) (R.of (ij Y.out N)),.inl ⟨_,_,_,HE.out,rfl⟩⟩
  |false=>
  go_wp2_with fail;refine (HS.out _ zc).mono ?_;rintro e w3 ⟨f,r2,rfl,-⟩;have N:ik p w3:=by rw[f];infer_instance
  clear f;go_wp2_with fail;refine (HM.out _ _ N).mono ?_;rintro e w4 ⟨C,S⟩;have a4:ik p w4:=by rw[C];exact N
  clear C N;cases r2 with
  |true=>
   obtain⟨x,y,E,hE,rfl⟩:Yj e:=S;have HE:=iB hE;clear hE;unfold mt;go_wp2_with fail;exact⟨rfl,a.out.2.1.trans (ii.refl K _) (R.of (ij Y.out a4)),.inl ⟨_,_,_,HE.out,rfl⟩⟩
  |false=>
  obtain rfl:e=.returned (.tuple #[]):=S;have m:((0:Int),nm)∉L:=by simpa using a6.out
  obtain⟨O,hO,M⟩:=HP.out m;have a7:=iB M;have P:Hid (∀U,ik p U->Do K b wr (U.putObj o O)/\(U.putObj o O).heap[b]?=wr.heap[b]?):=iB fun U s=>by
   have Z:=(a.out.1.dom b _ z.out.2.2).2;have aU:=ij Y.out s;exact⟨fun x hx=>(World.putObj_heap_other (by have:=Q.out;omega)).trans (aU.below.block x iu),(World.putObj_heap_other (by have:=Q.out;omega)).trans (aU.below.block b Z)⟩
  have HN:=iB m;clear k4 kl d0 dl n1 nl m M;obtain⟨k4,kl,d0,dl,n1,nl⟩:=HC.out w4 a4;go_wp2_with fail;go_region;have T:ik p w4.drew:=ij a4 zc;go_wp2_with fail;exact⟨⟨k+1,t,rfl,a7.out _ T,a.out.2.1.trans (ii.refl K _) ((R.of (ij Y.out T)).trans (ii.refl K _) (R.put (by rw[HO.out];simp) O)),lm a.out.2.2.1 a1.out HN.out,Do.trans HJ.out a.out.2.2.2.1 (ii.refl K _) (P.out _ T).1,(P.out _ T).2.trans a.out.2.2.2.2⟩,by simp only[intOf];omega⟩
 have G:¬(k:Int)<(l:Int):=iu
 go_wp2;go_end0;exact⟨a.out.2.1,.inr ⟨rfl,a.out.1,a.out.2.2.2.1,a.out.2.2.2.2,li a.out.2.2.1 t⟩⟩
def XT (e:Ending):Prop:=Yj e\/e=.returned (.tuple #[])
theorem LT {Q:Ending->yM->Prop} {W0:yM} (h:qr W0 g pe pn nd q sq) {E:Int} (hE:E≠0) {U:yM} (hU:ik W0 U) (ok:Bool) (hn:∀w3 e,Yj e->ik W0 w3->Q e w3) (hy:∀w3,ok=true->ik U w3->ik W0 w3->Q (.returned (.tuple #[])) w3) :
  Calls prog 58 #[.pointer g,ok,E] U Q:=by
 refine (TS (mZ (k:=hU) h) ok E hE).mono ?_;rintro e w3 ⟨rfl,a⟩;cases ok with
 |true=>obtain rfl:e=.returned (.tuple #[]):=a;exact hy _ rfl (iq _) hU
 |false=>exact hn _ _ a hU
theorem ST (h:qr w g pe pn nd q sq) (j:J L B K w) (hb:K b=some .nm) {x:nB iO} (hx:ir 3 jG D x) (hd:ik D (V K w)) :
  Calls prog 62 #[.pointer (some g),.pointer (some b),(x.A,x.l,x.c)] w fun e w'=>ik w w'/\XT e:=by
 obtain⟨A1,c1,l⟩:=x;have XX:=iB (fd iM ky hx hd (R.refl K w));have Y:=hx.len;simp only[]at Y;have HM:Hid (∀ok U,ik w U->∀Q:Ending->yM->Prop,_):=iB fun ok U Z Q=>LT (Q:=Q) h (E:=6) iI Z ok
 have HS:Hid (∀s U,ik w U->_):=iB fun s U Z=>T_ (j.after Z) hb s
 clear h j hb hx hd;go_in;go_wp2_with fail;go_loopw [12] (fun i wr=>∃k:Nat,k<=l.length/\i=.int .i64 (k:Nat)/\ik w wr) (fun i _=>l.length-(intOf i).toNat)
 ·exact⟨0,by omega,rfl,iq w⟩
 case round=>
 obtain⟨k,hk,rfl,N⟩:=hrel;by_cases r:k<l
 ·have p:(k:Int)<(l:Int):=iu
  obtain⟨bj,pj,yj,rfl,z,a9,a⟩:=(XX.out.decls wr).part (i:=k) r;obtain⟨nm,ty,cA,cc,o⟩:=yj;have S:=a.c0;have P:=a.c1;have O:=a.c2;have I:=iB a.cl;have X:=a.cl.len;simp only[]at S P O X;clear a;obtain⟨g2,F⟩:=jt wr.heap.size;obtain⟨W2,H,a2⟩:∃W,wr.alloc (.cells #[nm,ty,(cA,o,cc)] 77)=W/\ik wr W:=⟨_,rfl,zc⟩;have D2:iP W2 g2 77 #[nm,ty,(cA,o,cc)]:=by rw[<- H,<- F];exact jC ..
  have d2:W2.cell? (g2,2)=(cA,o,cc):=by rw[uJ D2];rfl
  have dl:=jo D2;have d:=iB a2;clear D2 a2;go_wp2_with fail;try rw[F]
  try rw[H]
  obtain⟨wo,T⟩:=jt wr;rw[T]at N S P O I z d;have a2:=d.out;go_loopw [19] (fun i wr=>∃m:Nat,m<=o.length/\i=.int .i64 (m:Nat)/\ik W2 wr) (fun i _=>o.length-(intOf i).toNat)
  ·exact⟨0,by omega,rfl,iq _⟩
  case round=>
  obtain⟨m,hm,rfl,M⟩:=hrel;by_cases v:m<o
  ·have t:(m:Int)<(o:Int):=iu
   have a3:ik w wr:=ij N (ij d.out M);obtain⟨bo,po,yo,rfl,a1,a8,n⟩:=(ir.below qF I.out (ij d.out M).below).part (i:=m) v;obtain⟨f,ot,og⟩:=yo;have z0:=n.c0;have z1:=n.c1;have z2:=n.c2;simp only[]at z0 z1 z2;clear n;obtain⟨g3,C⟩:=jt wr.heap.size;obtain⟨W3,G,a4⟩:∃W,wr.alloc (.cells #[f,ot,og] 178)=W/\ik wr W:=⟨_,rfl,zc⟩;have D3:iP W3 g3 178 #[f,ot,og]:=by rw[<- G,<- C];exact jC ..
   have d3:W3.cell? g3=f:=by rw[uJ D3];rfl
   have el:=jo D3;have a5:ik w W3:=ij a3 a4;have a0:=iB (ij M a4);clear D3 a4 d2 dl S P O;go_wp2_with fail;try rw[C]
   try rw[G]
   go_wp2_with fail;refine (HS.out f _ a5).mono ?_;rintro e w3 ⟨rfl,r2,rfl,-⟩;go_wp2_with fail;refine HM.out _ _ a5 _ (fun w4 e hp a6=>?_) fun w4 _ a6 a7=>?_
   ·obtain⟨x,y,E,hE,rfl⟩:=hp
    have HE:=iB hE;clear hE;unfold mt;go_wp2_with fail;exact⟨rfl,a6,.inl ⟨_,_,_,HE.out,rfl⟩⟩
   go_wp2_with fail;exact⟨⟨m+1,v,rfl,ij a0.out a6⟩,by simp only[intOf];omega⟩
  have t:¬(m:Int)<(o:Int):=iu
  have a3:ik w wr:=ij N (ij d.out M);go_wp2_with fail;exact⟨⟨k+1,r,rfl,a3⟩,by simp only[intOf];omega⟩
 have p:¬(k:Int)<(l:Int):=iu
 go_wp2;go_end0;exact⟨N,.inr rfl⟩
end
section
variable {L:List (Int×yB)} {B:Nat} {K K':Yd} {w w' w'' D:yM} {b g sq:Nat} {pe:Value} {nd q:Int} {nA:zA} {nc:Nat} {nl:List nh}
end
section
open Go.Shelf
attribute [local go_sem] Oper.semAt_some
def Ye:Fence:={ fn:=fun f=>∃fn,prog.funcs[f]?=some fn,depth:=none,alive:=false }
theorem Ug {n:Nat} {f:FuncId} {args:Array Value} {w:yM} {R:Ending->yM->Prop} (h:CallsIn Ye n prog f args w R):Calls prog f args w R:=fun cs=>by
 obtain⟨e,w',fr,r,s,x⟩:=h.2 cs (fun d h=>by cases h);refine⟨e,w',fr,r,?_,x⟩;cases e with
 |returned v=>exact StepsIn.steps s
 |panicked ch=>exact StepsIn.steps s
 |outgrown=>exact s
def UM (l:Nat) (R:Ending->yM->Prop):Exit->Act->yM->Prop
 |.normal,_,w=>∃v w',(Instr.endRound l none).run prog w=.ok v w'/\R (.returned v) w'
 |.panic ch,a,w=>a.defers=[]/\R (.panicked ch) w
 |_,_,_=>False
theorem Vz {n l:Nat} {f:FuncId} {tmps:Array Value} {assign body:Code} {w:yM} {R:Ending->yM->Prop} (hF:Ye.fn f)
  (h:assign.wpIn (Ye.inRound l) n prog (Exit.then (fun a1 w1=>∃w2,(Instr.beginRound l).run prog w1=.ok () w2/\body.wpIn (Ye.inRound l) n prog (UM l R) a1 w2) (fun _ _ _=>False)) { tmps:=tmps,defers:=[] } w) :
  RoundIn Ye n prog l f tmps assign body w R:=by
 refine⟨hF,fun c u _=>?_⟩;have a:∀k,(Ye.inRound l).room k:=fun k d h=>by cases h
 obtain⟨b,s⟩:∃b:Frame,b={ (default:Frame) with fn:=f,kind:=.normal,roundOf:=some l }:=⟨_,rfl⟩;have K:Frame.round l f tmps assign body .normal=b.atR { tmps:=tmps,defers:=[] } [.code assign,.beginRound,.code body]:=by rw[s];simp[Frame.round,Frame.atR]
 have r:b.fn=f:=by rw[s]
 have g:b.roundOf=some l:=by rw[s]
 have z:b.kind=.normal:=by rw[s]
 have e:(Ye.inRound l).fn b.fn:=by rw[r];exact hF
 obtain⟨J,a1,w1,o,x⟩:=h b [.beginRound,.code body] (c::u) g e (a _);rw[<- K]at x;cases J with
 |normal=>
  obtain⟨w2,q,j⟩:=o;have D:StepsIn (Machine.fenced prog (Ye.inRound l)) prog (lone (b.atR a1 [.beginRound,.code body]) (c::u) w1) (lone (b.atR a1 [.code body]) (c::u) w2):=.one (fenced_calm (n:=0) (fr:=b.atR a1 [.beginRound,.code body]) e (a _) rfl) (stepR_beginRound g q);obtain⟨I,B,C,m,E⟩:=j b [] (c::u) g e (a _);cases I with
  |normal=>
   obtain⟨v,G,p,A⟩:=m;exact⟨.returned v,G,A,(StepsIn.trans x D).trans (StepsIn.trans E (.one (fenced_calm (n:=0) (fr:=b.atR B []) e (a _) rfl) (stepR_round_end g z p)))⟩
  |panic ch=>
   obtain⟨y,A⟩:=m;obtain⟨i,H⟩:=E;have F:Frame.leaving prog { b.atR B i with mode:=.panicking ch } C (.panicked ch):=⟨rfl,y,by rw[show ({ b.atR B i with mode:=.panicking ch }:Frame).fn=f from r];exact hF⟩;exact⟨.panicked ch,C,A,(StepsIn.trans x D).trans (StepsIn.trans H (.one (fenced_leaving (n:=0) e (a _) F) (step_leave_panicked F)))⟩
  |ret=>exact m.elim
  |exit id=>exact m.elim
  |goto t=>exact m.elim
  |outgrown=>exact m.elim
 |ret=>exact o.elim
 |exit id=>exact o.elim
 |goto t=>exact o.elim
 |panic ch=>exact o.elim
 |outgrown=>exact o.elim
section
variable {L:List (Int×yB)} {B:Nat} {K K':Yd} {w w' w'' D:yM} {b g sq:Nat} {pe pn:Value} {nd q:Int}
theorem VY (F:Fence) (hf:F.fn 58) (hro:F.round=none) (h:qr w g pe pn nd q sq) (ok:Bool) (E:Int) (hE:E≠0) (n:Nat):CallsIn F n prog 58 #[.pointer (some g),ok,E] w fun e w'=>w'=w/\if ok then e=.returned (.tuple #[]) else Yj e:=by
 have a:=iB hE;clear hE;have d:w.cell? (g,2)=nd:=by rw[uJ h];rfl
 have c:w.cell? (g,3)=q:=by rw[uJ h];rfl
 have b:=jo h;refine callsIn_of_wp func58 rfl hf ?_ hro;simp only[ntmps58,Fu,py,wJ,Nat.reduceAdd,Nat.reduceSub,Fw,EO,EY,FK,sb,lP];cases ok with
 |true=>
  gi_wp2
  go_end0;exact⟨rfl,rfl⟩
 |false=>
 gi_wp2
 exact⟨rfl,rfl,_,_,_,a.out,rfl⟩
theorem Wu (F:Fence) (hf:F.fn 97) (hro:F.round=none) (j:J L B K w) (hk:K b=some .nm) (s:yB) (n:Nat):CallsIn F n prog 97 #[.pointer (some b),s] w fun e w'=>w'=w/\Vu (fun r=>r=true->((0:Int),s)∉L) e:=by
 have k:=iB j;have t:Hid (Wr K (.pointer b)):=iB (.inr ⟨b,rfl,hk⟩);clear j hk;refine callsIn_of_wp func97 rfl hf ?_ hro;simp only[ntmps97,Fu,py,wJ,Nat.reduceAdd,Nat.reduceSub,Fw,EO,EY,FK,sb,lP]
 gi_wp2
 gi_loopw [0] (fun v wr=>wr=w/\Hid (Wr K v)) (fun v _=>Wv v)
 ·exact⟨rfl,t⟩
 case round=>
 obtain⟨rfl,hp⟩:=hrel;rcases hp.out with rfl | ⟨c,rfl,hc⟩
 ·gi_wp2
  go_ret;exact⟨rfl,false,rfl,fun h=>by cases h⟩
 obtain⟨up,o,d,i,v,n,g,q,y,x,m,u⟩:=k.out.ok c _ hc;obtain⟨r,I,f⟩:=UO k.out q s;have C:=iB f;have D:=iB m;have H:wr.cell? c=some (.pointer up):=by rw[uJ g];rfl
 have G:wr.cell? (c,1)=some (.map (some o)):=by rw[uJ g];rfl
 have E:=jo g;clear g q y x m u f hc;cases r with
 |true=>
  gi_wp2
  go_ret;exact⟨rfl,true,rfl,by simpa using C.out⟩
 |false=>
 gi_wp2
 have a:Hid (Wr K (.pointer up))/\Wv (.pointer up)<Wv (.pointer c):=by
  cases up with
  |none=>exact⟨.inl rfl,Nat.succ_pos _⟩
  |some p=>
  obtain⟨A,M,z⟩:=D.out p rfl;exact⟨.inr ⟨p.block,by rw[<- A],z⟩,by show p.block+1<c+1;omega⟩
 go_roundw
 case rel=>exact⟨trivial,a.1⟩
 case measure=>exact a.2
end
section
variable {F:Fence} {r:Nat} {P:Program} {ops:Array Oper} {md:Region.Mode} {C:yM->Prop}
def In (F:Fence) (r:Nat) (P:Program) (md:Region.Mode) (ops:Array Oper) (C:yM->Prop) (n:Nat) (L:Array Bool->Act->Prop):Nat->Array Bool->Act->Prop
 |0,t,a=>L t a
 |m+1,t,a=>Region.ready md ops t≠[]/\∀k∈Region.ready md ops t,k<n/\qOpIn F r P ops C k (In F r P md ops C n L m (t.setIfInBounds k true)) a
theorem In.any (hro:F.round=none) {n g:Nat} {L:Array Bool->Act->Prop} {Q:Exit->Act->yM->Prop} (hL:∀t a w,C w->L t a->wpAnyIn F r P md ops Q g t a w) :
  ∀(m:Nat) (t:Array Bool) (a:Act) (w:yM),C w->In F r P md ops C n L m t a->wpAnyIn F r P md ops Q (m+g) t a w:=by
 intro m;induction m with
 |zero=>intro t a w c h;rw[t_];exact hL t a w c h
 |succ m ih=>
 intro t a w c h;rw[show m+1+g=(m+g)+1 by omega];exact⟨fun f=>absurd f h.1,fun k e=>wpOpIn_of_qOpIn hro c (fun j d b i=>ih _ j d b i) (h.2 k e).2⟩
theorem In.first {n i:Nat} {oi:Oper} {v:Value} {L:Array Bool->Act->Prop} (hi:ops[i]?=some oi) (hsel:∀(j:Nat) (o:Oper) cs b,ops[j]?=some o->o.op≠.select cs b)
  (hs:Region.sinkB md ops n=true) (hc:Region.chainB md ops n=true) (hn:n<ops.size) (hin:i<n) (hdone:∀t a,L t a->∀j∈Region.ready md ops t,n<=j) :
  ∀(m:Nat) (t:Array Bool) (a:Act),HeadInv md ops n t ->
   (∀j oj,ops[j]?=some oj->j≠i->t.getD j true=false->(∀e∈oj.after,Region.binds md e=true->e.on≠i)->oi.apart ops oj=true) ->
   i∈Region.ready md ops t->YieldsQuiet F r P ops C oi v a ->
   In F r P md ops C n L m (t.setIfInBounds i true) (a.put oi.dst v)->In F r P md ops C n L (m+1) t a:=by
 intro m;induction m with
 |zero=>
  intro t a p _ u E H;have q:=(mem_ready.1 u).1;have f:∀j∈Region.ready md ops t,j<n:=fun j d=>by
   rcases qa j n with h | h
   ·exact h
   exact absurd d (tail_waits hs hc hn p _ i rfl hin q j h)
  refine⟨fun h=>(by rw[h]at u;cases u),fun j d=>⟨f j d,?_⟩⟩;by_cases c:j=i
  ·subst c;exact E.qOpIn hi H
  have N:=hdone _ _ H j (ready_mono d c);have M:=f j d;omega
 |succ m ih=>
 intro t a p g u E H;have q:=(mem_ready.1 u).1;have f:∀j∈Region.ready md ops t,j<n:=fun j d=>by
  rcases qa j n with h | h
  ·exact h
  exact absurd d (tail_waits hs hc hn p _ i rfl hin q j h)
 refine⟨fun h=>(by rw[h]at u;cases u),fun j d=>⟨f j d,?_⟩⟩;by_cases c:j=i
 ·subst c;exact E.qOpIn hi H
 have N:=(H.2 j (ready_mono d c)).2;obtain⟨w,oj,x,B⟩:=mem_ready.1 d;have z:∀e∈oj.after,Region.binds md e=true->e.on≠i:=fun e Q R J=>by
  have D:=B e Q R;rw[J,getD_both q]at D;cases D
 have M:=qOpIn_put x (g j oj x c w z) (fun cs b=>hsel i oi cs b hi) (fun cs b=>hsel j oj cs b x) E N;have s:∀k y,ops[k]?=some y->k≠i->(t.setIfInBounds j true).getD k true=false ->
   (∀e∈y.after,Region.binds md e=true->e.on≠i)->oi.apart ops y=true:=fun k y O I K G=>by
  refine g k y O I ?_ G;by_cases A:j=k
  ·subst A;exact w
  rw[getD_set_ne true A]at K;exact K
 refine qOpIn_mono (fun S D=>ih (t.setIfInBounds j true) S (p.set d (f j d)) s (ready_mono u (ls c)) D.1 ?_) M;rw[Array.setIfInBounds_comm _ _ c];exact D.2
theorem In.lex {n g:Nat} {Lq:Act->Prop} (hsel:Region.noSelect ops=true) (hs:Region.sinkB md ops n=true) (hc:Region.chainB md ops n=true) (hn:n<ops.size) :
  ∀(l:List Oper) (k:Nat) (t:Array Bool) (a:Act),(∀j,j<l.length->l[j]?=ops[k+j]?)->k+l=n->HeadInv md ops n t ->
  Region.lexHead md ops g l k t=true->wpQuietIn F r P ops C Lq l a ->
  In F r P md ops C n (fun t' a'=>Region.seqB md ops g n t'=true/\Lq a') l.length t a:=by
 intro l;induction l with
 |nil=>
  intro k t a _ e _ f h;have:k=n:=by simpa using e
  subst this;exact⟨by simpa[Region.lexHead] using f,h⟩
 |cons o l ih=>
 intro k t a q e b f h;have i:ops[k]?=some o:=by simpa using (q 0 (by simp)).symm
 simp only[py,Region.lexHead,mT]at f;obtain⟨⟨u,w⟩,p⟩:=f;have d:k<n:=by simp only[py]at e;omega
 have c:k∈Region.ready md ops t:=by simpa using u
 have m:qOpIn F r P ops C k (wpQuietIn F r P ops C Lq l) a:=by unfold qOpIn;simp only[i];exact h
 obtain⟨v,s,y⟩:=yieldsQuiet_of_qOpIn i m;exact In.first i (Region.noSelect_spec hsel) hs hc hn d (fun t' a' x=>seqB_ready x.1) l.length t a b (Region.free_spec i w) c s
  (ih (k+1) _ _ (fun j z=>by have:=q (j+1) (by simp;omega);simpa[CL,Nat.add_comm 1 j] using this) (by simp only[py]at e;omega) (b.set c d) p y)
theorem TZ {Q':Exit->Act->yM->Prop}:∀(l:List Oper) (k:Nat) (listed:Array Bool) (a:Act) (w:yM),(∀j,l[j]?=ops[k+j]?) ->
  Region.seqB md ops l k listed=true->wpListIn F r P ops Q' l a w->wpAnyIn F r P md ops Q' l listed a w
 |[],_,_,_,_,_,hB,h=>⟨by simpa[Region.seqB] using hB,h⟩
 |o::l,k,listed,a,w,hl,hB,h=>by
  have h0:ops[k]?=some o:=by simpa using (hl 0).symm
  simp only[py,Region.seqB,mT,decide_eq_true_eq]at hB;refine⟨fun h1=>(by rw[hB.1]at h1;cases h1),fun i hi=>?_⟩;rw[hB.1]at hi;have hik:i=k:=by simpa using hi
  subst hik;have hw:wpOpIn F r P ops Q' i (wpListIn F r P ops Q' l) a w:=by unfold wpOpIn;simp only[h0];exact h
  exact wpOpIn_mono (fun a' w' h'=>TZ l (i+1) _ a' w' (fun j=>by have:=hl (j+1);simpa[CL,Nat.add_comm 1 j] using this) hB.2 h') hw
theorem TR (hro:F.round=none) {id:Nat} {Q:Exit->Act->yM->Prop} {a:Act} {w:yM} {l:List Oper} (n:Nat) (hm:P.follows .mixedOrders=true) (hB:Region.lexTailB .any l.toArray n=true) (hC:C { w with drawn:=w.drawn+1 })
  (h:wpQuietIn F r P l.toArray C (fun a'=>∀w',C w'->wpListIn F r P l.toArray Q (l.drop n) a' w') (l.take n) a):(Code.region id l.toArray true).wpIn F r P Q a w:=by
 simp only[Region.lexTailB,mT,decide_eq_true_eq]at hB;obtain⟨⟨⟨⟨d,m⟩,u⟩,x⟩,e⟩:=hB;have v:n<l:=by simpa using m
 have b:(l.take n).length=n:=by simp;omega
 have f:(l.drop n).length=l.toArray.size-n:=by simp
 have c:HeadInv .any l.toArray n (Array.replicate l.toArray.size false):=
  ⟨by simp,fun j y _ o=>(by rw[getD_replicate_false]at o;cases o),fun t _ s=>getD_in (by simpa using s) (getD_replicate_false _ _)⟩
 have H:=In.lex (md:=.any) (g:=l.toArray.size-n) d u x m (l.take n) 0 _ a (fun j p=>by
  have k:j<n:=by rw[b]at p;exact p
  simp[k]) (by simpa using b) c (by rw[b];exact e) h
 refine wpIn_region_any hm ?_;have:=In.any hro (Q:=Q) (g:=l.toArray.size-n) (fun t a' w' i q=>by
  have:=TZ (md:=.any) (Q':=Q) (l.drop n) n t a' w' (fun j=>by simp[List.getElem?_drop]) (by rw[f];exact q.1) (q.2 w' i);rwa [f]at this) _ _ _ _ hC H
 rw[b,show n+(l.toArray.size-n)=l.toArray.size by omega]at this;exact this
end
section
variable {L:List (Int×yB)} {B:Nat} {K K':Yd} {w w' w'' D:yM} {b g sq:Nat} {pe:Value} {nd q:Int} {nA:zA} {nc:Nat} {nl:List nh}
theorem UQ {Q:Ending->yM->Prop} {W0:yM} {pn:Value} (F:Fence) (hf:F.fn 58) (hro:F.round=none) (h:qr W0 g pe pn nd q sq) {E:Int} (hE:E≠0) {U:yM} (hU:ik W0 U) (ok:Bool) (m:Nat) (hn:∀w3 e,Yj e->ik U w3->ik W0 w3->Q e w3) (hy:∀w3,ok=true->ik U w3->ik W0 w3->Q (.returned (.tuple #[])) w3) :
  CallsIn F m prog 58 #[.pointer g,ok,E] U Q:=by
 refine (VY F hf hro (mZ (k:=hU) h) ok E hE m).mono ?_;rintro e w3 ⟨rfl,a⟩;cases ok with
 |true=>obtain rfl:e=.returned (.tuple #[]):=a;exact hy _ rfl (iq _) hU
 |false=>exact hn _ _ a (iq _) hU
theorem V4 (F:Fence) (hf:F.fn 138) (hm:F.fn 58) (hro:F.round=none) (hdp:F.depth=none) (rr:Nat) (h:qr w g pe (.slice nA nl nc) nd q sq) (j:J L B K w) (hs:K sq=some .seen) (hn:ir 8 (Gy True) D ⟨nA,nc,nl⟩) (hd:ik D (V K w)) {i:Nat} (hi:i<=nl) (k o t v:Int) (s:yB) (A:zA) (n c:Nat) (left:Int) :
  CallsIn F rr prog 138 #[.pointer (some g),(i:Nat),.agg #[k,o,t,v,s,(A,n,c)],left] w fun e w'=>ik w w'/\XT e:=by
 have XX:=iB (fd Ax Hs hn hd (R.refl K w));have a0:=hn.len;simp only[]at a0;obtain⟨w1,O⟩:=jt (w.alloc (.cells #[k,o,t,v,s,(A,n,c)] 73));have a1:ik w w1:=by rw[<- O];infer_instance
 have B1:iP w1 w 73 #[k,o,t,v,s,(A,n,c)]:=by rw[<- O];exact jC ..
 have h1:qr w1 g pe (.slice nA nl nc) nd q sq:=mZ (k:=a1) h;obtain⟨H,r,hr,s0,s9,-⟩:=IR (j.after a1) hs 1 s;have P:Hid (∀E:Int,E≠0->∀ok U,ik w1 U->∀(m:Nat) (Q:Ending->yM->Prop),_):=iB fun E hE ok U G m Q=>UQ (Q:=Q) F hm hro h1 hE G ok m
 have HC:Hid (∀U,ik w1 U->U.cell? (g,1)=(nA,nl,nc)/\U.cell? (g,4)=some (.map (some sq))/\Le (g+1) U/\U.cell? (w,3)=v/\U.cell? (w,4)=s/\U.cell? (w,5)=(A,n,c)/\Le (w+1) U):=iB fun U G=>by
  have h3:=mZ (k:=G) h1;have h4:=mZ (k:=G) B1;exact⟨by rw[uJ h3];rfl,by rw[uJ h3];rfl,jo h3,by rw[uJ h4];rfl,by rw[uJ h4];rfl,by rw[uJ h4];rfl,jo h4⟩
 have N:=iB a1;obtain⟨Y,X,W,e3,e4,e5,el⟩:=HC.out w1 (iq _);have Z:∀U:yM,(Instr.build 89 #[(0,.int .i64 1),(1,.string s)]).run prog U=.ok (UH 1 s) U:=fun U=>run_build U 89 _ _ kp
 clear h j hs hn hd h1 B1 a1;refine callsIn_of_wp func138 rfl hf ?_ hro;simp only[ntmps138,Fu,py,wJ,Nat.reduceAdd,Nat.reduceSub,Fw,EO,EY,FK,sb,lP]
 gi_wp2_with fail
 refine wpIn_region_quiet_lit hro kp kp ?_;repeat (gi_big_quiet_step (fail))
 refine wpQuietIn_nil ?_;rintro _ ⟨nq,rfl⟩;have hS:=iB (And.intro s0 s9);clear s9;by_cases a:r=true/\H<(i:Int);rotate_left
 ·have HN:Hid (¬(r=true/\H<(i:Int))):=a
  obtain⟨b2,I⟩:=jt (decide (H<(i:Int)));have hz:(r&&b2)=false:=by
   cases r with
   |false=>rfl
   |true=>
   have:¬H<(i:Int):=fun h=>a ⟨rfl,h⟩
   rw[<- I];simpa using this
  clear a;cases r with
  |true=>
   have a:¬H<(i:Int):=fun h=>HN.out ⟨rfl,h⟩
   clear I hz
   gi_wp2_with fail
   refine P.out 6 iI _ _ zc _ _ (fun d e hp _ p=>?_) fun d h _ _=>(by cases h)
   obtain⟨x,y,E,hE,rfl⟩:=hp;have u:=iB hE;clear hE;unfold mt
   gi_wp2_with fail
   exact⟨rfl,ij N.out p,.inl ⟨_,_,_,u.out,rfl⟩⟩
  |false=>
  clear I hz
  gi_wp2_with fail
  refine P.out 6 iI _ _ zc _ _ (fun d e hp _ p=>?_) fun d h _ _=>(by cases h)
  obtain⟨x,y,E,hE,rfl⟩:=hp;have u:=iB hE;clear hE;unfold mt
  gi_wp2_with fail
  exact⟨rfl,ij N.out p,.inl ⟨_,_,_,u.out,rfl⟩⟩
 obtain⟨rfl,a⟩:=a
 gi_wp2_with fail
 refine P.out 6 iI _ _ zc _ _ (fun d e hp _ p=>?_) fun d _ _ a4=>?_
 ·obtain⟨x,y,E,hE,rfl⟩:=hp
  have u:=iB hE;clear hE;unfold mt
  gi_wp2_with fail
  exact⟨rfl,ij N.out p,.inl ⟨_,_,_,u.out,rfl⟩⟩
 obtain⟨x,rfl⟩:∃x:Nat,H=(x:Int):=⟨H.toNat,by omega⟩;have hx:x<nl:=iu
 have a9:(x:Int)<(nl:Int):=iu
 obtain⟨bj,pj,yj,rfl,f,aa,M⟩:=((XX.out.below Ax (ij N.out a4).below).part (i:=x) hx);obtain⟨nm,⟨iA,ic,il⟩,⟨oA,oc,ol⟩,lo,eq,au,a',a_⟩:=yj;have T:=M.c1;have S:=M.c2;simp only[]at T S;have a3:Hid (∀U,ik d U->U.cell? (bj,pj+x*8+1)=(iA,il,ic)/\U.cell? (bj,pj+x*8+2)=(oA,ol,oc)/\Le (bj+1) U):=iB fun U G=>⟨(mH G.below f.le).trans T,(mH G.below f.le).trans S,⟨jW f.le G.below.size⟩⟩
 clear M Y X W e3 e4 e5 el;obtain⟨Y,X,W,e3,e4,e5,el⟩:=HC.out d a4;obtain⟨z,hz⟩:=jt (IntKind.i64.wrap ((il:Int)+v))
 gi_wp2_with fail
 refine TR (C:=fun w'=>∃y,w'=d.more y) hro 18 kp kp (jP d d.drew) ?_;simp only[sD,rP,uB,sS];repeat (gi_big_quiet_step (fail))
 refine wpQuietIn_nil ?_;rintro _ ⟨y_,rfl⟩
 gi_wp2_with fail
 refine P.out 9 iI _ _ (ij a4 zc) _ _ (fun w5 e hp _ p=>?_) fun w5 _ a5 p=>?_
 ·obtain⟨x,y,E,hE,rfl⟩:=hp
  have u:=iB hE;clear hE;unfold mt
  gi_wp2_with fail
  exact⟨rfl,ij N.out p,.inl ⟨_,_,_,u.out,rfl⟩⟩
 have a2:ik d w5:=ij zc a5;clear Y X W e3 e4 e5 el T S a5;obtain⟨T,S,yl⟩:=a3.out w5 a2;obtain⟨Y,X,W,e3,e4,e5,el⟩:=HC.out w5 p
 gi_wp2_with fail
 refine P.out 9 iI _ _ p _ _ (fun w7 e hp _ a7=>?_) fun w7 _ a7 a8=>?_
 ·obtain⟨x,y,E,hE,rfl⟩:=hp
  have u:=iB hE;clear hE;unfold mt
  gi_wp2_with fail
  exact⟨rfl,ij N.out a7,.inl ⟨_,_,_,u.out,rfl⟩⟩
 gi_wp2_with fail
 go_end0;exact⟨ij N.out a8,.inr rfl⟩
end
end
section
open Go.Shelf
attribute [local go_sem] Oper.semAt_some
theorem wl {f:FuncId} {fn:Func} (h:prog.funcs[f]?=some fn):Ye.fn f:=⟨fn,h⟩
theorem Wg:Ye.round=none:=rfl
attribute [local go_sem] Wg
structure TI (w W0:yM) (rc:Loop) (W:yM):Prop where
 os:W.os=W0.os
 tape:W.tape=W0.tape
 output:W.output=W0.output
 size:W0.heap.size+2<=W
 block:∀b,b<W0.heap.size->b≠w.heap.size+4->W.heap[b]?=W0.heap[b]?
 left:∃z:Int,iP W (w+4) 3 #[z]
 dfr:W.heap[W0.heap.size]?=some (.deferred (some []))
 rcd:W.heap[W0.heap.size+1]?=some (.loop rc)
section
variable {L:List (Int×yB)} {B:Nat} {K K':Yd} {w w' w'' W0 W W' D:yM} {b g sq:Nat} {pe:Value} {nd q:Int} {nA:zA} {nc:Nat} {nl:List nh} {rc:Loop}
theorem TI.keep (h:TI w W0 rc W) (os:W'.os=W.os) (tape:W'.tape=W.tape) (output:W'.output=W.output) (size:W.heap.size<=W') (hb:∀b,b<W0.heap.size+2->W'.heap[b]?=W.heap[b]?) (hw:w.heap.size+4<W0):TI w W0 rc W':=by
 obtain⟨z,a⟩:=h.left;exact⟨os.trans h.os,tape.trans h.tape,output.trans h.output,jW h.size size,fun b d c=>(hb b iu).trans (h.block b d c),⟨z,(hb _ iu).trans a⟩,(hb _ iu).trans h.dfr,(hb _ iu).trans h.rcd⟩
theorem TI.aft (h:TI w W0 rc W) (a:ik w W0):ik w W:=
 ⟨⟨h.os.trans a.below.os,h.tape.trans a.below.tape,h.output.trans a.below.output,by have:=h.size;have:=a.below.size;omega,fun b hb=>(h.block b (rO hb a.below.size) iu).trans (a.below.block b hb)⟩⟩
theorem TI.abides (hw:w.heap.size+4<W0):AbidesFrom (W0+2) (fun (_:List (Gc w)) W=>TI w W0 rc W):=by
 intro s A B c h a d;refine h.keep a.os a.tape a.output a.size (fun b f=>?_) hw;refine a.block b (by have:=h.size;omega) fun e=>?_
 have:=(d b e.symm).1;omega
structure X' (x l:Nat) (W U:yM):Prop where
 os:U.os=W.os
 tape:U.tape=W.tape
 output:U.output=W.output
 size:W.heap.size<=U
 block:∀b,b<W.heap.size->b≠x->b≠l->U.heap[b]?=W.heap[b]?
theorem X'.after {x l:Nat} {W U U':yM} (h:X' x l W U) (a:ik U U'):X' x l W U':=
 ⟨a.below.os.trans h.os,a.below.tape.trans h.tape,a.below.output.trans h.output,jW h.size a.below.size,fun b hb h1 h2=>(a.below.block b (rO hb h.size)).trans (h.block b hb h1 h2)⟩
theorem X'.put {x l:Nat} {W U:yM} (h:X' x l W U) (o:Obj):X' x l W (U.putObj l o):=
 ⟨h.os,h.tape,h.output,by rw[World.putObj_size];exact h.size,fun b hb h1 h2=>(World.putObj_heap_other h2).trans (h.block b hb h1 h2)⟩
theorem X'.set {x l:Nat} {W U:yM} (h:X' x l W U) (v:Value):X' x l W (U.setCell x v):=
 ⟨h.os,h.tape,h.output,by simpa using h.size,fun b hb h1 h2=>((xx.set (g:=x) U 0 v).block b (rO hb h.size) h1).trans (h.block b hb h1 h2)⟩
theorem X'.aft {x l:Nat} {w W U:yM} (h:X' x l W U) (a:ik w W) (hx:w<=x) (hl:w<=l):ik w U:=
 ⟨⟨h.os.trans a.below.os,h.tape.trans a.below.tape,h.output.trans a.below.output,jW a.below.size h.size,fun b hb=>(h.block b (rO hb a.below.size) iu iu).trans (a.below.block b hb)⟩⟩
theorem X'.kp {x l n0 B0:Nat} {W U:yM} (h:X' x l W U) (hx:n0<=x/\x<B0) (hl:n0<=l/\l<B0) (h0:n0<=W):ti n0 B0 W U:=
 ⟨⟨h.os,h.tape,h.output,h.size,fun b hb=>h.block b iu iu iu⟩,fun i ob hi ho _=>(h.block i (Array.getElem?_eq_some_iff.1 ho).1 iu iu).trans ho⟩
theorem TI.rr {w W0:yM} {rc:Loop} {W U:yM} (h:TI w W0 rc W) (r:X' (w+4) (W0+1) W U) (hl:U.heap[W0.heap.size+1]?=some (.loop rc)) {z:Int} (hz:iP U (w+4) 3 #[z]) (hw:w.heap.size+4<W0):TI w W0 rc U:=
 ⟨r.os.trans h.os,r.tape.trans h.tape,r.output.trans h.output,jW h.size r.size,fun b hb hne=>(r.block b (by have:=h.size;omega) hne iu).trans (h.block b hb hne),⟨z,hz⟩,(r.block _ (by have:=h.size;omega) iu iu).trans h.dfr,hl⟩
theorem VC {n:Nat} {g:Operand} {ps:Array Tmp} {assign body:Code} {Q:Exit->Act->yM->Prop} {a:Act} {w:yM} {gf:Nat} {lb:Array Value} (hg:a.eval g=.func (.func gf) #[] lb) (hF:Ye.fn gf) (eg:∀args w,(callFunc gf args).run prog w=.ok (.enter gf args) w)
  (h:∀(rc:Loop) (W1:yM),Ye.fn rc.fn->rc.state=.ready->rc.pending=none->rc.tmps=a.tmps->rc.params=ps->rc.assign=assign->rc.body=body->W1.heap.size=w.heap.size+2->ik w W1->W1.heap[w.heap.size]?=some (.deferred (some []))->W1.heap[w.heap.size+1]?=some (.loop rc) ->
   CallsIn Ye (n-1) prog gf (#[.func (.yield (w+1)) #[] #[]]++lb) W1 fun e W=>(∃v,e=.returned v/\W.heap[w.heap.size+1]?=some (.loop rc)/\Q .normal { a with defers:={ target:=.collected w,args:=#[] }::a.defers } (W.putObj (w+1) (.loop { rc with state:=.exhausted })))\/∃ch,e=.panicked ch/\Q (.panic ch) { a with defers:={ target:=.collected w,args:=#[] }::a.defers } W) :
  (Code.rangeFunc g ps assign body).wpIn Ye n prog Q a w:=by
 refine wpIn_rangeFunc ?_;intro fn f;obtain⟨rc,b⟩:∃rc:Loop,rc={ state:=.ready,pending:=none,fn,tmps:=a.tmps,params:=ps,assign,body,defers:=w.heap.size }:=⟨_,rfl⟩;obtain⟨W1,i,j,p,o,m⟩:∃W1,(w.alloc (.deferred (some []))).alloc (.loop rc)=W1/\W1.heap.size=w.heap.size+2/\ik w W1/\W1.heap[w.heap.size]?=some (.deferred (some []))/\W1.heap[w.heap.size+1]?=some (.loop rc):=by
  refine⟨_,rfl,by simp,zc,?_,?_⟩;all_goals (simp only[World.alloc,Array.getElem?_push,Array.size_push];repeat (first | rw[iG trivial] | rw[iG iu] | rw[iV iu]))
 refine⟨w.heap.size+1,[{ target:=.collected w,args:=#[] }],W1,{ target:=.fn (.func gf) lb,args:=#[.func (.yield (w+1)) #[] #[]] },W1,gf,#[.func (.yield (w+1)) #[] #[]]++lb,W1,?_,?_,?_,?_,fun h=>(by cases h),?_⟩
 ·rw[<- i,b];exact run_enterLoop_outer _ _ _ _ _
 ·simp only[resolve,hg]
  simp[go_sem]
 ·intro q c;simp[Target.leads]at c;subst c;exact hF
 ·simp[invoke,go_sem,eg]
 refine (h rc W1 (by rw[b];exact f) (by rw[b]) (by rw[b]) (by rw[b]) (by rw[b]) (by rw[b]) (by rw[b]) j p o m).mono ?_;rintro e W (⟨v,rfl,k,d⟩ | ⟨ch,rfl,d⟩)
 ·have hp:rc.pending=none:=by rw[b]
  refine⟨rc.pending,_,run_endLoop (P:=prog) k (by rw[b];simp),?_⟩;rw[hp]at d⊢;exact d
 exact d
def XU (J':yM->Prop) (Jp:List PanicEntry->yM->Prop) (e:Ending) (W':yM):Prop:=(e=.returned (.bool true)/\J' W')\/∃ch,e=.panicked ch/\Jp ch W'
theorem U0 {m l:Nat} {args:Array Value} {W:yM} {R R':Ending->yM->Prop} (h:YieldAt Ye m prog l args W R) (hr:∀e w',R e w'->R' e w'):YieldAt Ye m prog l args W R':=by
 obtain⟨g,b,a,c,d,f⟩:=h;exact⟨g,b,a,c,d,f.mono hr⟩
theorem Vv {m l:Nat} {rc:Loop} {args:Array Value} {W:yM} {R:Ending->yM->Prop} (hl:W.heap[l]?=some (.loop rc)) (hs:args.size=rc.params.size) (hF:Ye.fn rc.fn)
  (h:rc.assign.wpIn (Ye.inRound l) m prog (Exit.then (fun a1 w1=>∃w2,(Instr.beginRound l).run prog w1=.ok () w2/\rc.body.wpIn (Ye.inRound l) m prog (UM l R) a1 w2) (fun _ _ _=>False)) { tmps:=(rc.params.zip args).foldl (fun t (p,v)=>t.setIfInBounds p v) rc.tmps,defers:=[] } W) :
  YieldAt Ye m prog l args W R:=
 ⟨rc.fn,_,rc.assign,rc.body,run_yield hl hs,Vz hF h⟩
theorem TY {w W:yM} (h:ik w W) {b:Nat} (hb:w<=b) (o:Obj):ik w (W.putObj b o):=
 ⟨⟨h.below.os,h.below.tape,h.below.output,by rw[World.putObj_size];exact h.below.size,fun k hk=>(World.putObj_heap_other iu).trans (h.below.block k hk)⟩⟩
theorem X7 (w:yM) (a b c d e f:Obj) {n:Nat} (hn:w=n):∃W,(((((w.alloc a).alloc b).alloc c).alloc d).alloc e).alloc f=W/\W=n+6/\ik w W/\W.heap[n]?=some a/\W.heap[n+1]?=some b/\W.heap[n+1+1]?=some c/\W.heap[n+1+1+1+1]?=some e/\W.heap[n+5]?=some f:=by
 subst hn;refine⟨_,rfl,by simp,zc,?_,?_,?_,?_,?_⟩;all_goals (simp only[World.alloc,Array.getElem?_push,Array.size_push];repeat (first | rw[iG trivial] | rw[iG iu] | rw[iV iu]))
theorem ms (h:qr w g pe (.slice nA nl nc) nd q sq) (j:J L B K w) (hs:K sq=some .seen) (hb:K b=some .nm) (hn:ir 8 (Gy True) D ⟨nA,nc,nl⟩) (hd:ik D (V K w)) {i:Nat} (hi:i<=nl) {k o t v:Int} {s:yB} {A:zA} {c:Nat} {xs:List Tx} (hX:RX w (.mk k o t v s A c xs)) (hB:FY (.mk k o t v s A c xs)) (left:Int) :
  CallsIn Ye 5 prog 101 #[.pointer g,(i:Nat),.pointer (some b),.agg #[k,o,t,v,s,(A,xs.length,c)],left] w fun e w'=>ik w w'/\(Yj e\/(e=.returned (.tuple #[])/\∀x∈(Tx.mk k o t v s A c xs).list,x.kind=2->((0:Int),x.name)∉L)):=by
 have HS:Hid (∀(s:yB) (U:yM),ik w U->∀m,_):=iB fun s U d m=>Wu Ye (wl func97) rfl (j.after d) hb s m
 have HM:Hid (∀(E:Int),E≠0->∀ok U,ik w U->∀m Q,_):=iB fun E hE ok U d m Q=>UQ (Q:=Q) Ye (wl func58) rfl h hE d ok m
 have aq:Hid (∀(k o t v:Int) (s:yB) (A:zA) (m c:Nat) (lf:Int) (U:yM),ik w U->∀r,_):=iB fun k o t v s A m c lf U d r=>V4 Ye (wl func138) (wl func58) rfl rfl r (w:=U) (mZ (k:=d) h) (j.after d) hs hn (ij hd ((R.of d).v (ii.refl K _))) hi k o t v s A m c lf
 have G:Mb w (.mk k o t v s A c xs):=⟨hX,hB⟩;clear h j hs hb hn hd hX hB;refine callsIn_of_wp_marks func101 rfl (wl func101) ?_ rfl;simp only[ntmps101,Fu,py,wJ,Nat.reduceAdd,Nat.reduceSub,Fw,EO,EY,FK,sb,lP]
 gi_wp2_with fail
 refine⟨wl func124,(yT Ye 4 (wl func124) rfl k o t v s A c xs _).mono ?_⟩;rintro e w' ⟨rfl,rfl⟩
 gi_wp2_with fail
 obtain⟨n,H⟩:=jt w.heap.size;obtain⟨a,ak,ay,aw0,B0,B1,B2,B4,B5⟩:=X7 w (.cells #[.pointer g] 83) (.cells #[(i:Nat)] 3) (.cells #[.pointer b] 136) (.cells #[k,o,t,v,s,(A,xs.length,c)] 73) (.cells #[left] 3) (.cells #[k,o,t,v,s,(A,xs.length,c)] 73) H;rw[ak,H];refine VC rfl (wl func161) (enters_of func161 kp rfl) ?_;intro rc W1 az Y a6 ae a_ ah ag ax a1 hD hl;have a5:w.heap.size+4<a:=iu
 have am:TI w a rc W1:=⟨a1.below.os,a1.below.tape,a1.below.output,by omega,fun b hb _=>a1.below.block b hb,⟨left,by rw[H];exact (a1.below.block _ iu).trans B4⟩,hD,hl⟩;have ao:ik w W1:=ij aw0 a1;refine (each1P_in Ye rfl 4 (wl func161) (wl func162) rfl (a.heap.size+1) (n+5) (a.heap.size+2) (a.heap.size+2) w (fun ph W=>TI w a rc W/\∀x∈ph,x.1.kind=2->((0:Int),x.1.name)∉L) (fun _ _=>False) (fun C W=>ik w W/\Yj (.panicked C)/\W.heap[a.heap.size]?=some (.deferred (some []))) ?_ k o t v s A c xs G ?_ W1 ao iu ((a1.below.block _ iu).trans B5) ⟨am,fun x G=>by cases G⟩).mono ?_
 ·intro ph W S ar h hg hr
  exact⟨TI.abides a5 ph W S ar h.1 hg hr,h.2⟩
 ·rintro ph ⟨⟨f,o1,t1,v1,N,A1,c1,p⟩,a4⟩ W ⟨u,hP⟩ _
  obtain⟨JJ,aF,al⟩:∃JJ:World->Prop,Hid (∀S,(TI w a rc S/\∀x∈ph++[(⟨.mk f o1 t1 v1 N A1 c1 p,a4⟩:Gc w)],x.1.kind=2->((0:Int),x.1.name)∉L)/\ti w.heap.size (a.heap.size+2) W S->JJ S)/\Hid (∀S,JJ S->(TI w a rc S/\∀x∈ph++[(⟨.mk f o1 t1 v1 N A1 c1 p,a4⟩:Gc w)],x.1.kind=2->((0:Int),x.1.name)∉L)/\ti w.heap.size (a.heap.size+2) W S):=⟨_,fun _ h=>h,fun _ h=>h⟩;obtain⟨JQ,aE,aG⟩:∃JQ:List PanicEntry->World->Prop,Hid (∀C W,ik w W/\Yj (.panicked C)/\W.heap[a.heap.size]?=some (.deferred (some []))->JQ C W)/\Hid (∀C W,JQ C W->ik w W/\Yj (.panicked C)/\W.heap[a.heap.size]?=some (.deferred (some []))):=⟨_,fun _ _ h=>h,fun _ _ h=>h⟩;refine U0 (R:=XU JJ JQ) ?_ (fun e S h=>h.elim (fun h=>.inl ⟨h.1,(al.out _ h.2).1,(al.out _ h.2).2⟩) fun⟨C,h3,h4⟩=>.inr (.inr ⟨C,h3,aG.out _ _ h4⟩));refine Vv u.rcd (by rw[a_];rfl) az ?_;rw[ah,ag,a_,ae];simp only[Tx.val,Tx.kind,Tx.op,Tx.ty,Tx.va,Tx.name,Tx.ad,Tx.args,Tx.cap]
  gi_wp2
  obtain⟨O,a0⟩:=jt W.heap.size;obtain⟨z,hz⟩:=u.left;have aw:=u.size;obtain⟨W2,aj,s2,a2,BX⟩:∃U,W.alloc (.cells #[f,o1,t1,v1,N,(A1,p.length,c1)] 73)=U/\U=O+1/\ik W U/\iP U O 73 #[f,o1,t1,v1,N,(A1,p.length,c1)]:=⟨_,rfl,by simp[a0],zc,by rw[<- a0];exact jC ..⟩;have af:W2.heap[a.heap.size+1]?=some (.loop rc):=(a2.below.block _ iu).trans u.rcd;have r2:X' (w+4) (a+1) W (W2.putObj (a+1) (.loop { rc with state:=.busy })):=X'.put ⟨a2.below.os,a2.below.tape,a2.below.output,a2.below.size,fun b hb _ _=>a2.below.block b hb⟩ _;have F:∀b,b<W.heap.size->b≠a.heap.size+1->(W2.putObj (a+1) (.loop { rc with state:=.busy })).heap[b]?=W.heap[b]?:=fun b hb aC=>(World.putObj_heap_other aC).trans (a2.below.block b hb)
  obtain⟨W3,ai,aK,aI,H0,H1,H2,H4,H6,H7,an⟩:∃U,W2.putObj (a.heap.size+1) (.loop { rc with state:=.busy })=U/\Hid (X' (w.heap.size+4) (a.heap.size+1) W U)/\Hid (iP U O 73 #[f,o1,t1,v1,N,.slice A1 p.length c1])/\Hid (iP U n 83 #[.pointer (some g)])/\Hid (iP U (n+1) 3 #[.int .i64 (i:Nat)])/\Hid (iP U (n+1+1) 136 #[.pointer (some b)])/\Hid (iP U (n+1+1+1+1) 3 #[z])/\Hid (U.heap[a.heap.size]?=some (.deferred (some [])))/\Hid (U.heap[a.heap.size+1]?=some (.loop { rc with state:=.busy }))/\ik w U:=by
   refine⟨_,rfl,r2,(World.putObj_heap_other iu).trans BX,(F _ iu iu).trans ((u.block _ iu iu).trans B0),(F _ iu iu).trans ((u.block _ iu iu).trans B1),(F _ iu iu).trans ((u.block _ iu iu).trans B2),(F _ iu iu).trans (by rw[<- H];exact hz),(F _ iu iu).trans u.dfr,World.putObj_heap_same iu,X'.aft r2 (u.aft aw0) iu iu⟩
  have I:=run_beginRound (P:=prog) af Y;rw[ai]at I;have e6:n+6=a:=iu
  rw[aj,e6,a0];refine⟨_,I,?_⟩;have a':Hid (∀U,ik W3 U->U.cell? O=some (.int .i64 f)/\U.cell? ⟨O,1,none⟩=some (.int .i64 o1)/\U.cell? ⟨O,2,none⟩=some (.int .i64 t1)/\U.cell? ⟨O,3,none⟩=some (.int .i64 v1)/\U.cell? ⟨O,4,none⟩=some (.string N)/\U.cell? ⟨O,5,none⟩=some (.slice A1 p c1)/\Le (O+1) U/\U.cell? n=some (.pointer (some g))/\Le (n+1) U/\U.cell? ⟨n+1,0,none⟩=some (.int .i64 (i:Nat))/\Le (n+1+1) U/\U.cell? ⟨n+1+1,0,none⟩=some (.pointer (some b))/\Le (n+1+1+1) U/\U.cell? ⟨n+1+1+1+1,0,none⟩=some (.int .i64 z)/\U.frozen? ⟨n+1+1+1+1,0,none⟩=false/\Le (n+1+1+1+1+1) U):=iB fun U d=>by
   have e0:=mZ (k:=d) aI.out;have e1:=mZ (k:=d) H0.out;have e2:=mZ (k:=d) H1.out;have e3:=mZ (k:=d) H2.out;have e4:=mZ (k:=d) H4.out;exact⟨by rw[e0.cell];rfl,by rw[e0.cell];rfl,by rw[e0.cell];rfl,by rw[e0.cell];rfl,by rw[e0.cell];rfl,by rw[e0.cell];rfl,e0.is_le,by rw[e1.cell];rfl,e1.is_le,by rw[e2.cell];rfl,e2.is_le,by rw[e3.cell];rfl,e3.is_le,by rw[e4.cell];rfl,e4.frozen 0,e4.is_le⟩
  have aL:Hid (∀h:f=2->((0:Int),N)∉L,∀x∈ph++[(⟨.mk f o1 t1 v1 N A1 c1 p,a4⟩:Gc w)],x.1.kind=2->((0:Int),x.1.name)∉L):=iB fun h x G h2=>by
   rcases ue.1 G with G | G
   ·exact hP x G h2
   rw[yw.1 G]at h2⊢;exact h h2
  have M:Hid (∀U,ik W3 U->(f=2->((0:Int),N)∉L)->∃w',(Instr.endRound (a.heap.size+1) none).run prog (U.setCell ⟨n+1+1+1+1,0,none⟩ (.int .i64 1))=.ok (.bool true) w'/\JJ w'):=iB fun U d aB=>by
   have e5:n+1+1+1+1=w+4:=iu
   rw[e5];have f7:U.heap[a.heap.size+1]?=some (.loop { rc with state:=.busy }):=(d.below.block _ (Array.getElem?_eq_some_iff.1 H7.out).1).trans H7.out;have f8:(U.setCell ⟨w.heap.size+4,0,none⟩ (.int .i64 1)).heap[a.heap.size+1]?=some (.loop { rc with state:=.busy }):=((xx.set (g:=w.heap.size+4) U 0 (.int .i64 1)).block _ (Array.getElem?_eq_some_iff.1 f7).1 iu).trans f7;have hr:=run_endRound (P:=prog) none f8;have aA:({ ({ rc with state:=.busy }:Loop) with state:=if (none:Option Code).isNone then .ready else .done,pending:=none }:Loop)=rc:=by
    cases rc;simp only at Y a6;subst Y;subst a6;rfl
   rw[aA]at hr;have r9:X' (w.heap.size+4) (a.heap.size+1) W ((U.setCell ⟨w.heap.size+4,0,none⟩ (.int .i64 1)).putObj (a.heap.size+1) (.loop rc)):=((aK.out.after d).set _).put _;have b9:iP U (w.heap.size+4) 3 #[z]:=by rw[<- e5];exact mZ (k:=d) H4.out
   have aH:iP (U.setCell ⟨w.heap.size+4,0,none⟩ (.int .i64 1)) (w.heap.size+4) 3 #[.int .i64 1]:=b9.jx 0 _;exact⟨_,hr,aF.out _ ⟨⟨u.rr r9 (World.putObj_heap_same (Array.getElem?_eq_some_iff.1 f8).1) ((World.putObj_heap_other iu).trans aH) a5,aL.out aB⟩,r9.kp ⟨by omega,by omega⟩ ⟨by omega,by omega⟩ iu⟩⟩
  have a3:Hid (∀U C,ik W3 U->Yj (.panicked C)->JQ C U):=iB fun U C d hp=>aE.out _ _ ⟨ij an d,hp,(d.below.block _ (Array.getElem?_eq_some_iff.1 H6.out).1).trans H6.out⟩
  obtain⟨x0,x1,x2,x3,x4,x5,xl,n0,ac,n1,ab,n2,aa,n4,X,T⟩:=a'.out W3 (iq _);have aN:=aq;have aJ:=iB (HS.out N);have aM:=iB (HM.out 6 iI);clear aq HS HM hP u a2 BX af r2 F I ai hz aj Y a6 ae a_ ah ag e6 ay H ax a5 aw s2 a0 B0 B1 B2 B4 B5 ak aw0 a1 hD hl am ao;have aO:prog.follows .mixedOrders=true:=by kernel_rfl
  by_cases hk:f=2\/f=8\/f=9
  ·rcases hk with rfl | rfl | rfl
   all_goals
    gi_wp2_with fail
    gi_region_with_o (first | (refine⟨wl func97,(CallsIn.inRound _ (aJ.out _ (by infer_instance) _)).mono ?_⟩;rintro e w6 ⟨rfl,r,rfl,hr⟩) | (refine⟨wl func58,CallsIn.inRound _ (aM.out _ _ (by infer_instance) _ _ (fun w7 e hp a7 a8=>?_) fun w7 hok a7 a8=>?_)⟩;(obtain⟨x,y,E,hE,rfl⟩:=hp;have HE:=iB hE;clear hE;unfold mt;gi_wp2_with fail;exact⟨rfl,.inr ⟨_,rfl,a3.out _ _ (ij zc a7) ⟨x,y,E,HE.out,rfl⟩⟩⟩)))
    all_goals
     have a9:ik W3 w7:=ij zc a7;obtain⟨w9,e9,j9⟩:=M.out w7 a9 (fun _=>hr hok);clear x0 x1 x2 x3 x4 x5 xl n0 ac n1 ab n2 aa n4 X T;obtain⟨-,-,-,-,-,-,-,-,-,-,-,-,-,n4,X,T⟩:=a'.out w7 a9
     gi_wp2_with fail
     exact⟨_,_,e9,.inl ⟨rfl,j9⟩⟩
  by_cases Z:f=10
  ·subst Z
   gi_wp2_with fail
   refine⟨wl func138,(CallsIn.inRound _ (aN.out _ _ _ _ _ _ _ _ _ _ an _)).mono ?_⟩;rintro e w7 ⟨a7,hp | rfl⟩
   ·obtain⟨x,y,E,hE,rfl⟩:=hp
    have HE:=iB hE;clear hE;unfold mt
    gi_wp2_with fail
    exact⟨rfl,.inr ⟨_,rfl,a3.out _ _ a7 ⟨x,y,E,HE.out,rfl⟩⟩⟩
   obtain⟨w9,e9,j9⟩:=M.out w7 a7 (fun h=>absurd h iI);clear x0 x1 x2 x3 x4 x5 xl n0 ac n1 ab n2 aa n4 X T;obtain⟨-,-,-,-,-,-,-,-,-,-,-,-,-,n4,X,T⟩:=a'.out w7 a7
   gi_wp2_with fail
   exact⟨_,_,e9,.inl ⟨rfl,j9⟩⟩
  obtain⟨w9,e9,j9⟩:=M.out W3 (iq _) (fun h=>absurd (Or.inl h) hk);have c2:(f==2)=false:=by rw[beq_eq_false_iff_ne];exact fun h=>hk (.inl h)
  have c8:(f==8)=false:=by rw[beq_eq_false_iff_ne];exact fun h=>hk (.inr (.inl h))
  have c9:(f==9)=false:=by rw[beq_eq_false_iff_ne];exact fun h=>hk (.inr (.inr h))
  have aP:(f==10)=false:=by rw[beq_eq_false_iff_ne];exact Z
  have HK:=iB (And.intro hk Z);clear hk Z
  gi_wp2_with fail
  exact⟨_,_,e9,.inl ⟨rfl,j9⟩⟩
 rintro e W (⟨⟨v,rfl⟩,⟨ys,av,u,hP⟩ | ⟨_,_,h⟩⟩ | ⟨C,rfl,hA,hP,hK⟩)
 ·refine .inl ⟨v,rfl,u.rcd,?_⟩
  have aD:a.heap.size≠a+1:=iu
  have hK:=(World.putObj_heap_other (o:=.loop { rc with state:=.exhausted }) aD).trans u.dfr;refine⟨by simp,.inl ⟨_,_,rfl,run_takeDeferred hK,?_⟩⟩;refine⟨.tuple #[],by simp[results,results101,go_sem],TY (TY (u.aft aw0) iu _) iu _,.inr ⟨rfl,fun x G h2=>?_⟩⟩;rw[<- av]at G;obtain⟨y,hy,rfl⟩:=yQ.1 G;exact hP y hy h2
 ·exact h.elim
 refine .inr ⟨C,rfl,?_⟩;refine⟨by simp,.inl ⟨_,_,rfl,run_takeDeferred hK,?_⟩⟩;exact⟨TY hA iu _,.inl hP⟩
end
end
end Go.Proofs.YtnigblndonocfaaGreatDoor
