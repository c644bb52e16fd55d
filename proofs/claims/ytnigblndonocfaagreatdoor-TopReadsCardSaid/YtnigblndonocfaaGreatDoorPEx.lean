/- A part of the proof. -/
import Derived.Test.YtnigblndonocfaaGreatDoorEPl
import Derived.BigQuiet
import Derived.Deep.RegionHeld3
set_option linter.unusedVariables false
set_option linter.unusedSimpArgs false
namespace Go.Proofs.YtnigblndonocfaaGreatDoor
set_option maxRecDepth 100000
set_option maxHeartbeats 1600000
open Go.Proofs.Tryz
open Go.RowKit Go.BigFrame
def Dl (l:List iW) (k t v:Int) (n:Nat):Int:=
 if k=1\/k=8 then (if jV l t=0 then 10 else if nq l t v then 0 else 14)
 else if k=9 then (if jV l t=0 then 10 else if n=jV l t then 0 else 9) else 0
def Bl (l:List iW) (e:Tx):Int:=Dl l e.kind e.ty e.va e.args.length
def lv (l:List iW):List Tx->Int
 |[]=>0
 |e::m=>if Bl l e=0 then lv l m else Bl l e
theorem sr (l:List iW) (a b:List Tx):lv l (a++b)=if lv l a=0 then lv l b else lv l a:=by
 induction a with
 |nil=>simp[lv]
 |cons x a ih=>
 rw[lP,lv,lv,ih];by_cases h:Bl l x=0
 ·rw[iG h,iG h]
 rw[iV h,iV h,iV h]
theorem IA (l:List iW) (a:List Tx) (e:Tx):lv l (a++[e])=if lv l a=0 then Bl l e else lv l a:=by
 rw[sr];have:lv l [e]=Bl l e:=by simp only[lv];split<;>simp_all
 rw[this]
theorem Ji (l:List iW) {a b:List Tx} (h:a <+: b) (e:lv l a≠0):lv l b=lv l a:=by
 obtain⟨r,rfl⟩:=h;rw[sr,iV e]
noncomputable def qk (l:List iW) (e:Tx):Int:=if vj e=0 then lv l e.list else vj e
theorem GM {w0:World} {x:nB iW} (h:ir 2 sM w0 x) (w:World) (hw:ik w0 w) (k o t v:Int) (s:ByteArray) (A:Option Addr) (n c:Nat) (ht:t<=9223372036854775807) (hn:n<=140737488355328) :
  Calls prog 125 #[.slice x.A x.l.length x.c,.agg #[k,o,t,v,s,.slice A n c]] w fun e w'=>e=.returned (.int .i64 (Dl x.l k t v n))/\ik w w':=by
 have a8:=N1 h t;have HS:=iy (fun (U:World) (hU:ik w0 U)=>uS h U hU t ht);have HH:=iy (fun (U:World) (hU:ik w0 U)=>Ch h U hU t v ht);obtain⟨R,hR⟩:=jt (Dl x.l k t v n);have HR:=iy hR;rw[hR];obtain⟨m,hm⟩:=jt (jV x.l t);obtain⟨q,hq⟩:=jt (nq x.l t v);have HV:Hid (R=if k=1\/k=8 then (if m=0 then 10 else if q then 0 else 14) else if k=9 then (if m=0 then 10 else if n=m then 0 else 9) else 0):=by
  show _=_
  rw[<- HR.out];unfold Dl;rw[hm,hq]
 rw[hm]at HS a8;rw[hq]at HH;obtain⟨W1,ad,HK,a1⟩:∃W1,w.alloc (.cells #[k,o,t,v,s,.slice A n c] 73)=W1/\Hid (∀U:World,ik W1 U->U.cell? ⟨w.heap.size,0,none⟩=some (.int .i64 k)/\U.cell? ⟨w.heap.size,2,none⟩=some (.int .i64 t)/\U.cell? ⟨w.heap.size,3,none⟩=some (.int .i64 v)/\U.cell? ⟨w.heap.size,5,none⟩=some (.slice A n c)/\Le (w.heap.size+1) U)/\ik w W1:=by
  refine⟨_,rfl,fun U hU=>?_,iR⟩;have y0:=(jC w 73 #[k,o,t,v,s,.slice A n c]).after (w':=U);exact⟨by rw[y0.cell];rfl,by rw[y0.cell];rfl,by rw[y0.cell];rfl,by rw[y0.cell];rfl,y0.is_le⟩
 obtain⟨k0,k2,k3,k5,kl⟩:=HK W1 iR;go_in;go_wp2_with fail;refine (HS W1 (ij hw a1)).mono ?_;rintro e w2 ⟨rfl,a2⟩;have d2:=ij a1 a2;obtain⟨k0,k2,k3,k5,kl⟩:=HK w2 a2;by_cases J:k=1\/k=8
 ·have a6:Hid (R=if m=0 then 10 else if q then 0 else 14):=by show _=_;rw[HV.out,iG J]
  have b9:(k==9)=false:=by rw[beq_eq_false_iff_ne];omega
  by_cases j:m=0
  ·subst j
   have I:Hid (R=10):=by show _=_;rw[a6.out,iG rfl]
   rcases J with rfl | rfl
   all_goals
    go_wp2;go_ret;exact⟨by rw[I.out];rfl,d2⟩
  have ab:(0:Int)<(m:Int):=iu;have aa:((m:Int)==0)=false:=by rw[beq_eq_false_iff_ne];omega
  have a':(m==0)=false:=by rw[beq_eq_false_iff_ne];omega
  cases q with
  |true=>
   have I:Hid (R=0):=by show _=_;rw[a6.out,iV j];rfl
   rcases J with rfl | rfl
   all_goals
    go_wp2_with fail;refine (HH w2 (ij hw d2)).mono ?_;rintro e w3 ⟨rfl,a3⟩;have d3:=ij d2 a3;obtain⟨k0,k2,k3,k5,kl⟩:=HK w3 (ij a2 a3);go_wp2;go_ret;exact⟨by rw[I.out];rfl,d3⟩
  |false=>
  have I:Hid (R=14):=by show _=_;rw[a6.out,iV j];rfl
  rcases J with rfl | rfl
  all_goals
   go_wp2_with fail;refine (HH w2 (ij hw d2)).mono ?_;rintro e w3 ⟨rfl,a3⟩;have d3:=ij d2 a3;go_wp2;go_ret;exact⟨by rw[I.out];rfl,d3⟩
 replace HV:=iy (HV.trans (iV J));by_cases h9:k=9
 ·subst h9
  replace HV:=iy (HV.trans (iG rfl));by_cases j:m=0
  ·subst j
   have I:Hid (R=10):=by show _=_;rw[HV.out,iG rfl]
   go_wp2;go_ret;exact⟨by rw[I.out];rfl,d2⟩
  by_cases a7:n=m
  ·subst a7
   have I:Hid (R=0):=by show _=_;rw[HV.out,iV j,iG rfl]
   go_wp2;go_ret;exact⟨by rw[I.out];rfl,d2⟩
  have I:Hid (R=9):=by show _=_;rw[HV.out,iV j,iV a7]
  have a_:((n:Int)==(m:Int))=false:=by rw[beq_eq_false_iff_ne];omega
  go_wp2;go_ret;exact⟨by rw[I.out];rfl,d2⟩
 have I:=iy (HV.trans (iV h9));go_wp2;go_ret;exact⟨by rw[I.out];rfl,d2⟩
theorem kq {q b:Nat} {t:TypeId} {cs:Array Value} {w w':World} (h:iP w b t cs) (e:b≠q) (a:ik (iz q w) (iz q w')):iP w' b t cs:=lM ((BR h e).after (k:=a)) e
theorem lZ {q:Nat} {w w':World} (a:ik (iz q w) (iz q w')):w.heap.size<=w'.heap.size:=by have h:=a.below.size;rwa [iZ,iZ]at h
theorem Qa {b:Bool} (h:Hid (b=false)):¬b=true:=by rw[h.out];exact yE
theorem kL {c S R:Prop} (k:R) (h:¬c:=by decide):(c->S)/\R:=⟨fun x=>absurd x h,k⟩
theorem kS {A S R:Prop} (h:S) (k:R) (e:S/\R->A:=by intro e;first | exact e | exact⟨fun _=>e.1,e.2⟩):A:=e ⟨h,k⟩
theorem Ls {B:World} {q:Nat} {A:Option Addr} {c:Nat} {L:List Tk} {en:Int} {eA:Option Addr} {ec:Nat} {el:List iW} {w:World} {i r:Nat} (h:Rd B q A c L en eA ec el w i) (hr:w.heap.size=r) (e:r≠q) (cs:Array Value) (T:TypeId) :
  ∃v,w.alloc (.cells cs T)=v/\ik w v/\iP (iz q v) r T cs/\Hid (Rd B q A c L en eA ec el v i)/\v.heap.size=r+1:=
 ⟨_,rfl,inferInstance,by rw[<- hr];exact BR (jC ..) (by omega),h.after inferInstance,by rw[iH,hr]⟩
section
def DD (D:DataW Unit) (s:ByteArray):Int:=match D.atKey (.string s.data.toList) (.lit (.int .i64 0)) with
 |.lit (.int _ c)=>c
 |_=>0
def Be (n:Int) (s:ByteArray):Bool:=Maps.has (Bq (B9 n)) (.string s.data.toList)
def Ia (n:Int):List Tk->Option Int
 |[]=>none
 |t::_=>if (t.kind==3||t.kind==4)&&Be n t.text then some (DD (Bq (B9 n)) t.text) else none
theorem N' {w:World} {b n:Nat} {D:DataW Unit} (h:sE w b n D) (s:ByteArray) (hs:s.size<=65536) (U:World) [a:ik w U] :
  (Instr.lookup 252 (.map (some b)) (.string s) true).run prog U=.ok (.tuple #[.int .i64 (DD D s),.bool (Maps.has D (.string s.data.toList))]) U:=by
 have hU:sE U b n D:=by
  have I:=World.ownsMap.lt h;obtain⟨es,j,hb,F,J,hD⟩:=h;exact⟨es,j,(a.below.block b I).trans hb,F,J,hD⟩
 obtain⟨v,ps,o,R⟩:=World.ownsMap.look_ok hU Ns underlying252 (z:=.int .i64 0) kp (plainElem_int underlying3 iI) (WideMaps.keyOf_string_mk (s:=s) underlying9 (by unfold maxLen;omega));obtain⟨c,rfl,hc,_⟩:=plainElem_int_inv underlying3 R;rw[o];have h9:D.atKey (.string s.data.toList) (.lit (.int .i64 0))=.lit (.int .i64 c):=nQ Prod.fst hc;have:DD D s=c:=by unfold DD;rw[h9]
 rw[this]
def TB (w:World) (r:Option Int) (e:Ending) (w':World):Prop:=ik w w'/\match r with
 |some op=>e=.returned (.tuple #[op,.bool true])
 |none=>∃c:Int,e=.returned (.tuple #[c,.bool false])
section
variable {B:World} {q:Nat} {A:Option Addr} {c:Nat} {L:List Tk} {en:Int} {eA:Option Addr} {ec:Nat} {el:List iW} {w:World} {i:Nat}
theorem Fv (h:Rd B q A c L en eA ec el w i) (n:Int):Calls prog 153 #[.pointer (some q),n] w (TB w (Ia n (L.drop i))):=by
 obtain⟨X,hX⟩:=jt (Ia n (L.drop i));rw[hX];have HX:=iy hX;have H3:=iy (qv h 3);have a8:ju 3 (L.drop i)=true->i<L.length:=rX;have a7:ju 4 (L.drop i)=true->i<L.length:=rX;have H4:Hid (∀U,ik w U->Calls prog 34 #[.pointer (some q),.int .i64 4] U fun e w'=>e=.returned (.bool (ju 4 (L.drop i)))/\ik U w'):=fun U I=>qv (h.after I) 4
 obtain⟨R,a'⟩:=jt (ju 3 (L.drop i));obtain⟨z4,j⟩:=jt (ju 4 (L.drop i));rw[a']at H3 a8;rw[j]at H4 a7;have HZ:=iy (And.intro a' j);have H:=iy h;by_cases ad:R=false/\z4=false
 ·obtain⟨rfl,rfl⟩:=ad
  go_in;go_wp2_with fail;refine H3.mono ?_;rintro e w1 ⟨rfl,a1⟩;go_wp2_with fail;refine (H4 _ a1).mono ?_;rintro e w2 ⟨rfl,a2⟩;have ah:Hid (X=none):=by
   show _=_
   rw[<- HX.out];have h1:=HZ.1;have h2:=HZ.2;cases hd:L.drop i with
   |nil=>rfl
   |cons t l=>
   rw[hd]at h1 h2;show (if (t.kind==3||t.kind==4)&&_ then _ else _)=_
   rw[show (t.kind==3)=false from h1,show (t.kind==4)=false from h2];rfl
  go_wp2;exact jR (v:=.tuple #[.int .i64 0,.bool false]) (by simp[results,results153,go_sem]) rfl ⟨ij a1 a2,by rw[ah.out];exact⟨0,rfl⟩⟩
 have hi:i<L.length:=by
  cases R
  ·cases z4
   ·exact absurd ⟨rfl,rfl⟩ ad
   exact a7 rfl
  exact a8 rfl
 have ae:(R||z4)=true:=by cases R<;>cases z4<;>simp_all
 have aj:(i:Int)<(L.length:Int):=iu;have ai:(0:Int)<=(i:Int):=iu;obtain⟨b,p,kd,t,nn,rfl,hl,hy,ht,hn,t0,t1,t2⟩:=H.at_ hi;obtain⟨c0,c1,c2,c3,f2,l0⟩:=H.fields;have HK:Hid (∀U,ik w U->(U.cell? q=some (.slice (some ⟨b,p,none⟩) L.length c)/\U.cell? ⟨q,2,none⟩=some (.int .i64 (i:Nat))/\U.cell? ⟨b,p+i*3+1,none⟩=some (.string t))):=fun U I=>⟨(I.below.cell (p:=⟨q,0,none⟩) l0.le).trans c0,(I.below.cell (p:=⟨q,2,none⟩) l0.le).trans c2,(I.below.cell (p:=⟨b,p+i*3+1,none⟩) hl.le).trans t1⟩
 have HV:Hid (X=if Be n t then some (DD (Bq (B9 n)) t) else none):=by
  show _=_
  rw[<- HX.out];have h1:=HZ.1;have h2:=HZ.2;rw[oU hy.out]at h1 h2⊢;show (if (kd==3||kd==4)&&_ then _ else _)=_
  rw[show (kd==3)=R from h1,show (kd==4)=z4 from h2,ae,xI]
 have j:R=false->z4=true:=by cases R<;>cases z4<;>simp_all
 obtain⟨op,aa⟩:=jt (DD (Bq (B9 n)) t);obtain⟨oh,ab⟩:=jt (Be n t);rw[aa,ab]at HV;have HB:=iy (fun U=>IH n U);have HM:Hid (∀(w1:World) (b2:Nat),sE w1 b2 6 (Bq (B9 n))->∀(U:World) [ik w1 U],(Instr.lookup 252 (.map (some b2)) (.string t) true).run prog U=.ok (.tuple #[op,.bool oh]) U):=fun w1 b2 hm U _=>by
  rw[N' hm t ht U,aa];rw[show Maps.has (Bq (B9 n)) (.string t.data.toList)=oh from ab]
 go_in;go_wp2_with fail;refine H3.mono ?_;rintro e w1 ⟨rfl,a1⟩;cases R
 ·have j:=j rfl
  subst j;go_wp2_with fail;refine (H4 _ a1).mono ?_;rintro e w2 ⟨rfl,a2⟩;have J:=ij a1 a2;have l1:Le (q+1) w2:=⟨jW l0.le J.below.size⟩;have l2:Le (b+1) w2:=⟨jW hl.le J.below.size⟩;have a_:Hid (∀U,ik w2 U->(U.cell? q=some (.slice (some ⟨b,p,none⟩) L.length c)/\U.cell? ⟨q,2,none⟩=some (.int .i64 (i:Nat))/\U.cell? ⟨b,p+i*3+1,none⟩=some (.string t))):=fun U I=>HK U (ij J I)
  go_wp2_with fail;go_region_held3 (fun V=>V.cell? q=some (.slice (some ⟨b,p,none⟩) L.length c)/\V.cell? ⟨q,2,none⟩=some (.int .i64 (i:Nat))/\V.cell? ⟨b,p+i*3+1,none⟩=some (.string t)) (exact a_.out _ iR) (first | (go_at_call 171;(with_reducible refine (HB.out _).mono ?_);rintro e w5 ⟨b5,rfl,o,ag,a5⟩;have af:=HM.out w5 b5 o;have a6:ik w2 w5:=ij iR a5;clear o));go_wp2;exact jR (v:=.tuple #[op,.bool oh]) (by simp[results,results153,go_sem]) rfl ⟨ij J a6,by
   rw[HV.out];cases oh
   ·exact⟨op,rfl⟩
   rfl⟩
 have a_:Hid (∀U,ik w1 U->(U.cell? q=some (.slice (some ⟨b,p,none⟩) L.length c)/\U.cell? ⟨q,2,none⟩=some (.int .i64 (i:Nat))/\U.cell? ⟨b,p+i*3+1,none⟩=some (.string t))):=fun U I=>HK U (ij a1 I)
 go_wp2_with fail;go_region_held3 (fun V=>V.cell? q=some (.slice (some ⟨b,p,none⟩) L.length c)/\V.cell? ⟨q,2,none⟩=some (.int .i64 (i:Nat))/\V.cell? ⟨b,p+i*3+1,none⟩=some (.string t)) (exact a_.out _ iR) (first | (go_at_call 171;(with_reducible refine (HB.out _).mono ?_);rintro e w5 ⟨b5,rfl,o,ag,a5⟩;have af:=HM.out w5 b5 o;have a6:ik w1 w5:=ij iR a5;clear o));go_wp2;exact jR (v:=.tuple #[op,.bool oh]) (by simp[results,results153,go_sem]) rfl ⟨ij a1 a6,by
  rw[HV.out];cases oh
  ·exact⟨op,rfl⟩
  rfl⟩
end
end
def Cb:List Tk->ByteArray
 |[]=>⟨#[]⟩
 |t::_=>t.text
def lk (el:List iW) (t v:Int) (known:Bool) (ts:List Tk):Bool:=
 if jq ⟨#[116,114,117,101]⟩ ts||jq ⟨#[102,97,108,115,101]⟩ ts then !((known&&!(t==1))||!(jq ⟨#[116,114,117,101]⟩ ts==(v==1))||(!known&&!jq ⟨#[116,114,117,101]⟩ ts))
 else ju 1 ts&&(match qh el (Cb ts) with
  |some (u,x)=>!((known&&(!(u==t)||!(x==v)))||(!known&&!(x==0)))
  |none=>!known)
mutual
def jg (el:List iW):Nat->List Tk->Option (Ex×List Tk)
 |0,_=>none
 |k+1,ts=>(jB el k 0 ts).bind fun (a,r)=>if jq ⟨#[45,62]⟩ r then (jg el k r.tail).bind fun (b,r)=>some (.mk 6 0 0 0 ⟨#[]⟩ [a,b],r) else if jq ⟨#[102,98,121]⟩ r then (jg el k r.tail).bind fun (b,r)=>some (.mk 7 0 0 0 ⟨#[]⟩ [a,b],r) else some (a,r)
def jB (el:List iW):Nat->Int->List Tk->Option (Ex×List Tk)
 |0,_,_=>none
 |k+1,n,ts=>if n=2 then (if jq ⟨#[110,111,116]⟩ ts then (jB el k 2 ts.tail).bind fun (a,r)=>some (.mk 3 1 0 0 ⟨#[]⟩ [a],r) else jB el k 3 ts) else if n=6 then xu el k ts else (jB el k (n+1) ts).bind fun (a,r)=>sK el k n a r
def sK (el:List iW):Nat->Int->Ex->List Tk->Option (Ex×List Tk)
 |0,_,_,_=>none
 |k+1,n,a,ts=>match Ia n ts with
  |none=>some (a,ts)
  |some op=>(jB el k (n+1) ts.tail).bind fun (b,r)=>if n=3 then some (.mk 3 op 0 0 ⟨#[]⟩ [a,b],r) else sK el k n (.mk 3 op 0 0 ⟨#[]⟩ [a,b]) r
def xu (el:List iW):Nat->List Tk->Option (Ex×List Tk)
 |0,_=>none
 |k+1,ts=>if rI ts then (kV el k ts).bind fun (e,r)=>mO el k e r
  else if jq ⟨#[45]⟩ ts then (xu el k ts.tail).bind fun (a,r)=>some (.mk 3 2 0 0 ⟨#[]⟩ [a],r)
  else if jq ⟨#[112,114,101]⟩ ts then (xu el k ts.tail).bind fun (a,r)=>some (.mk 5 0 0 0 ⟨#[]⟩ [a],r)
  else (kV el k ts).bind fun (e,r)=>mO el k e r
def mO (el:List iW):Nat->Ex->List Tk->Option (Ex×List Tk)
 |0,_,_=>none
 |k+1,e,ts=>if jq ⟨#[119,104,101,110]⟩ ts then (mD el ts.tail).bind fun (o,r)=>mO el k (.mk 8 0 o.t o.tag o.name [e]) r else some (e,ts)
def kV (el:List iW):Nat->List Tk->Option (Ex×List Tk)
 |0,_=>none
 |k+1,ts=>if rI ts then some (.mk 1 0 2 (-(rY (Cb ts.tail))) ⟨#[]⟩ [],ts.tail.tail)
  else if jq ⟨#[45]⟩ ts then none
  else if ju 2 ts then (if 32767<rY (Cb ts) then none else some (.mk 1 0 2 (rY (Cb ts)) ⟨#[]⟩ [],ts.tail))
  else if ju 5 ts then some (.mk 11 0 0 0 (Cb ts) [],ts.tail)
  else if jq ⟨#[116,114,117,101]⟩ ts then some (.mk 1 0 1 1 ⟨#[]⟩ [],ts.tail)
  else if jq ⟨#[102,97,108,115,101]⟩ ts then some (.mk 1 0 1 0 ⟨#[]⟩ [],ts.tail)
  else if jq ⟨#[40]⟩ ts then (jg el k ts.tail).bind fun (e,r)=>(iF [⟨#[41]⟩] r).bind fun (_,r)=>some (e,r)
  else if jq ⟨#[105,102]⟩ ts then (jg el k ts.tail).bind fun (c,r)=>(iF [⟨#[116,104,101,110]⟩] r).bind fun (_,r)=>(jg el k r).bind fun (a,r)=>(iF [⟨#[101,108,115,101]⟩] r).bind fun (_,r)=>(jg el k r).bind fun (b,r)=>some (.mk 4 0 0 0 ⟨#[]⟩ [c,a,b],r)
  else if jq ⟨#[109,101,114,103,101]⟩ ts then tI el k ts.tail
  else (pV ts).bind fun (s,r)=>if jq ⟨#[40]⟩ r then sU el k s r.tail else match qh el s with
   |some (t,v)=>some (.mk 1 0 t v ⟨#[]⟩ [],r)
   |none=>some (.mk 2 0 0 0 s [],r)
def sU (el:List iW):Nat->ByteArray->List Tk->Option (Ex×List Tk)
 |0,_,_=>none
 |k+1,s,ts=>if jq ⟨#[41]⟩ ts then oR el k s [] ts.tail else (jg el k ts).bind fun (a,r)=>(rF el k [a] r).bind fun (l,r)=>(iF [⟨#[41]⟩] r).bind fun (_,r)=>oR el k s l r
def rF (el:List iW):Nat->List Ex->List Tk->Option (List Ex×List Tk)
 |0,_,_=>none
 |k+1,l,ts=>if jq ⟨#[44]⟩ ts then (jg el k ts.tail).bind fun (a,r)=>rF el k (l++[a]) r else some (l,ts)
def oR (el:List iW):Nat->ByteArray->List Ex->List Tk->Option (Ex×List Tk)
 |0,_,_,_=>none
 |k+1,s,l,ts=>if jq ⟨#[101,118,101,114,121]⟩ ts then (kV el k ts.tail).bind fun (x,r)=>some (.mk 10 0 0 1 s (l++[x]),r) else some (.mk 10 0 0 0 s l,ts)
def tI (el:List iW):Nat->List Tk->Option (Ex×List Tk)
 |0,_=>none
 |k+1,ts=>(pV ts).bind fun (s,r)=>(iF [⟨#[40]⟩] r).bind fun (_,r)=>if lk el 0 (if jq ⟨#[116,114,117,101]⟩ r then 1 else 0) false r then (l_ el r).bind fun (tv,r)=>(iF [⟨#[45,62]⟩] r).bind fun (_,r)=>(jg el k r).bind fun (x,r)=>(iF [⟨#[41]⟩] r).bind fun (_,r)=>we el k s tv.1 (jV el tv.1) [x] r else none
def we (el:List iW):Nat->ByteArray->Int->Nat->List Ex->List Tk->Option (Ex×List Tk)
 |0,_,_,_,_,_=>none
 |k+1,s,t,n,l,ts=>if l.length<n then (iF [⟨#[40]⟩] ts).bind fun (_,r)=>if lk el t (if t=1 then 1-(l.length:Int) else l.length) true r then (l_ el r).bind fun (tv,r)=>if tv.1=t then (iF [⟨#[45,62]⟩] r).bind fun (_,r)=>(jg el k r).bind fun (x,r)=>(iF [⟨#[41]⟩] r).bind fun (_,r)=>we el k s t n (l++[x]) r else none else none
  else some (.mk 9 0 t 0 s (if t=1 then l.reverse else l),ts)
end
section
def old (n:Nat) (w:World):World:={ w with heap:=w.heap.mapIdx fun i o=>if i<n then .cells #[] 0 (0,0) else o }
section
variable {q n m:Nat} {w w':World}
theorem ku (n:Nat) (w:World):(old n w).heap.size=w.heap.size:=by simp[old]
theorem lV (w:World) {b:Nat} (h:n<=b):(old n w).heap[b]?=w.heap[b]?:=by
 unfold old;simp only[Array.getElem?_mapIdx];cases w.heap[b]? with
 |none=>rfl
 |some o=>simp[Nat.not_lt.2 h]
theorem qZ (w:World) {b:Nat} (h:b<n) (hb:b<w.heap.size):(old n w).heap[b]?=some (.cells #[] 0 (0,0)):=by
 unfold old;simp only[Array.getElem?_mapIdx,Array.getElem?_eq_getElem hb,Option.map_some,iG h]
theorem C9 (w:World) {b o:Nat} {v:Value} (h:b<n) (hc:(old n w).cell? ⟨b,o,none⟩=some v):False:=by
 have j:=World.block_lt_of_cell? (old n w) ⟨b,o,none⟩ hc;rw[ku]at j;rw[cell_of_row (old n w) b o #[] 0 (0,0) (qZ w h j)]at hc;simp at hc
theorem vk (n:Nat) (w:World):CU (old n w) w:=by
 refine⟨lI (ku n w),fun b o v h=>?_⟩;by_cases e:b<n
 ·exact (C9 w e h).elim
 rwa [Dj (w:=old n w) (w':=w) (a:=⟨b,o,none⟩) (lV w (wb e)).symm]
theorem iS (h:n<=m) (w:World):CU (old m w) (old n w):=by
 refine⟨by rw[ku,ku];exact js _,fun b o v j=>?_⟩;by_cases e:b<m
 ·exact (C9 w e j).elim
 have I:=wb e;rw[Dj (w:=old m w) (w':=old n w) (a:=⟨b,o,none⟩) ((lV w (jW h I)).trans (lV w I).symm)];exact j
theorem kj (hq:q<n) (a:ik (iz q w) (iz q w')):ik (old n w) (old n w'):=by
 have I:=a.below.size;rw[iZ,iZ]at I;refine⟨⟨a.below.os,a.below.tape,a.below.output,by rw[ku,ku];exact I,fun b o=>?_⟩⟩;rw[ku]at o;by_cases e:b<n
 ·rw[qZ w e o,qZ w' e (rO o I)]
 have J:=wb e;have j:b≠q:=iu;rw[lV w J,lV w' J];have:=a.below.block b (by rw[iZ];exact o);rwa [km w' j,km w j]at this
theorem jK (a:ik w w'):ik (old n w) (old n w'):=by
 refine⟨⟨a.below.os,a.below.tape,a.below.output,by rw[ku,ku];exact a.below.size,fun b j=>?_⟩⟩;rw[ku]at j;by_cases e:b<n
 ·rw[qZ w e j,qZ w' e (rO j a.below.size)]
 rw[lV w (wb e),lV w' (wb e)];exact a.below.block b j
theorem j' {r:Nat} (h:r<n) (w:World) (i:Nat) (v:Value):ik (old n w) (old n (w.setCell ⟨r,i,none⟩ v)):=by
 refine⟨⟨rfl,rfl,rfl,by rw[ku,ku,jc];exact js _,fun b j=>?_⟩⟩;rw[ku]at j;by_cases e:b<n
 ·rw[qZ w e j,qZ _ e (by rw[jc];exact j)]
 rw[lV w (wb e),lV _ (wb e)];exact Below.heap_setCell w _ v b (by show b≠r;omega)
theorem iP.old {b:Nat} {t:TypeId} {cs:Array Value} (h:iP w b t cs) (hb:n<=b):iP (old n w) b t cs:=(lV w hb).trans h
end
def jj (y:Tx):List Value:=[.int .i64 y.kind,.int .i64 y.op,.int .i64 y.ty,.int .i64 y.va,.string y.name,.slice y.ad y.args.length y.cap]
def VX (n:Nat) (x:Ex) (w:World) (v:Value):Prop:=∃y:Tx,y.er=x/\v=y.val/\RX (old n w) y
def qP (w:World) (r:Nat) (y:Tx):Prop:=iP w r 73 (jj y).toArray
def oE:Tx:=.mk 0 0 0 0 ⟨#[]⟩ none 0 []
theorem QW (l:List Tx):Tx.kv l=l.map Tx.er:=by
 induction l with
 |nil=>rw[Tx.kv];rfl
 |cons a l ih=>rw[Tx.kv,ih];rfl
theorem qp (k o t v:Int) (s:ByteArray) (A:Option Addr) (c:Nat) (xs:List Tx):(Tx.mk k o t v s A c xs).er=.mk k o t v s (xs.map Tx.er):=by rw[Tx.er,QW]
theorem xX.De {w:World} {b:Nat}:∀{ys:List Tx} {o:Nat},(∀j u,(ys.flatMap jj)[j]?=some u->w.cell? ⟨b,o+j,none⟩=some u)->(∀y∈ys,RX w y)->xX w b o ys
 |[],o,_,_=>by rw[xX];trivial
 |y::ys,o,h,hr=>by
  rw[xX];have h6:∀j u,(jj y)[j]?=some u->w.cell? ⟨b,o+j,none⟩=some u:=fun j u hu=>h j u (by
   rw[pZ];rw[wk (rq.1 hu).1];exact hu)
  refine⟨⟨h6 0 _ rfl,h6 1 _ rfl,h6 2 _ rfl,h6 3 _ rfl,h6 4 _ rfl,h6 5 _ rfl⟩,hr y (nG ..),xX.De (fun j u hu=>?_) fun z hz=>hr z (qj _ hz)⟩;rw[CL];exact h (6+j) u (by
   rw[pZ,xK (by show 6<=6+j;omega)];show (ys.flatMap jj)[6+j-6]?=_
   rw[Nc];exact hu)
theorem RX.lit {w:World} {g:Nat} {T:TypeId} {ys:List Tx} (hb:iP w g T (ys.flatMap jj).toArray) (hr:∀y∈ys,RX w y) (hl:ys.length<=65536) (k o t v:Int) (s:ByteArray) (hs:s.size<=65536):RX w (.mk k o t v s (some ⟨g,0,none⟩) ys.length ys):=by
 rw[RX];refine⟨iu,js _,iu,iu,.inr ⟨g,0,rfl,hb.lt,xX.De (fun j u I=>?_) hr⟩⟩;rw[hb.cell,t_,<- Array.getElem?_toList];exact I
theorem RX.leaf {w:World} (k o t v:Int) (s:ByteArray) (hs:s.size<=65536):RX w (.mk k o t v s none 0 []):=by
 rw[RX];exact⟨iu,js _,iu,by simp,.inl rfl⟩
section
variable {B:World} {q:Nat} {A:Option Addr} {c:Nat} {L:List Tk} {en:Int} {eA:Option Addr} {ec:Nat} {el:List iW} {w w0 w1 w':World} {i:Nat}
theorem jY {r:Nat} {z:Tx} (hB:qP w1 r z) (R:Rd B q A c L en eA ec el w1 i) (hrq:r≠q) (aw:ik (iz q w0) (iz q w1)) (hr:w0.heap.size<=r) (hB0:B.heap.size<=r) (y:Tx) :
  ∃W,(((((w1.setCell r (.int .i64 y.kind)).setCell ⟨r,1,none⟩ (.int .i64 y.op)).setCell ⟨r,2,none⟩ (.int .i64 y.ty)).setCell ⟨r,3,none⟩ (.int .i64 y.va)).setCell ⟨r,4,none⟩ (.string y.name)).setCell ⟨r,5,none⟩ (.slice y.ad y.args.length y.cap)=W /\
   qP W r y/\Rd B q A c L en eA ec el W i/\ik (iz q w0) (iz q W)/\(∀n,r<n->ik (old n w1) (old n W))/\W.heap.size=w1.heap.size:=by
 have U:=(((((hB.jx 0 (.int .i64 y.kind)).jx 1 (.int .i64 y.op)).jx 2 (.int .i64 y.ty)).jx 3 (.int .i64 y.va)).jx 4 (.string y.name)).jx 5 (.slice y.ad y.args.length y.cap);have o:uD (iz q w0) r:=ko hr;have I:uD B r:=⟨hB0⟩;have F:∀{u:World} {T:TypeId} {cs:Array Value} (j:Nat) (v:Value),iP u q T cs->iP (u.setCell ⟨r,j,none⟩ v) q T cs:=fun j v J=>J.qU (p:=⟨r,j,none⟩) (ls hrq) v
 refine⟨_,rfl,U,⟨F 5 _ (F 4 _ (F 3 _ (F 2 _ (F 1 _ (F 0 _ R.blk))))),?_,R.le,R.tk,R.ens,R.few,R.num⟩,?_,fun n o=>?_,by simp only[jc]⟩
 ·exact iJ (h:=iJ (h:=iJ (h:=iJ (h:=iJ (h:=iJ (h:=R.aft) 0 _) 1 _) 2 _) 3 _) 4 _) 5 _
 ·exact iJ (h:=iJ (h:=iJ (h:=iJ (h:=iJ (h:=iJ (h:=aw) 0 _) 1 _) 2 _) 3 _) 4 _) 5 _
 exact ij (ij (ij (ij (ij (j' o _ 0 _) (j' o _ 1 _)) (j' o _ 2 _)) (j' o _ 3 _)) (j' o _ 4 _)) (j' o _ 5 _)
theorem qP.cells {r:Nat} {y:Tx} (h:qP w r y):w.cell? r=some (.int .i64 y.kind)/\w.cell? ⟨r,1,none⟩=some (.int .i64 y.op)/\w.cell? ⟨r,2,none⟩=some (.int .i64 y.ty)/\w.cell? ⟨r,3,none⟩=some (.int .i64 y.va)/\w.cell? ⟨r,4,none⟩=some (.string y.name)/\w.cell? ⟨r,5,none⟩=some (.slice y.ad y.args.length y.cap):=
 ⟨(uJ h 0).trans rfl,(uJ h 1).trans rfl,(uJ h 2).trans rfl,(uJ h 3).trans rfl,(uJ h 4).trans rfl,(uJ h 5).trans rfl⟩
end
end
abbrev yV:=@iP.old
abbrev xS:=@RX.lit
abbrev yS:=@RX.leaf
abbrev Iy:=@qP.cells
end Go.Proofs.YtnigblndonocfaaGreatDoor
