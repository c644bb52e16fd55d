/- A part of the proof. -/
import Derived.Test.YtnigblndonocfaaGreatDoorSQa
import Derived.Laws.RangeString
import Derived.Maps.OwnSet
import Derived.StringKeys
set_option linter.unusedVariables false
set_option linter.unusedSimpArgs false
namespace Go.Proofs.YtnigblndonocfaaGreatDoor
set_option maxRecDepth 100000
set_option maxHeartbeats 1600000
open Go.Proofs.Tryz
open Go.RowKit Go.BigFrame
section
def Na (t:Tk):Prop:=t.kind=2->(∀c∈t.text.data.toList,jw (c.toNat:Nat)=true)/\0<t.text.size/\t.text.size<=5
structure Rd (B:World) (q:Nat) (A:Option Addr) (c:Nat) (L:List Tk) (en:Int) (eA:Option Addr) (ec:Nat) (el:List iW) (w:World) (i:Nat):Prop where
 blk:iP w q 95 #[.slice A L.length c,en,.int .i64 (i:Nat),.slice eA el.length ec]
 aft:ik B (iz q w)
 le:i<=L.length
 tk:ir 3 Om B ⟨A,c,L⟩
 ens:ir 2 sM B ⟨eA,ec,el⟩
 few:L.length<=65536
 num:∀t∈L,Na t
def oD (a er:Int):Ending:=.panicked [{ v:=.iface 97 (.agg #[a,er]),recovered:=false }]
def Fl (e:Ending):Prop:=∃a er:Int,e=oD a er/\er≠0
section
variable {B:World} {q:Nat} {A:Option Addr} {c:Nat} {L:List Tk} {en:Int} {eA:Option Addr} {ec:Nat} {el:List iW} {w w':World} {i:Nat}
theorem Rd.after (h:Rd B q A c L en eA ec el w i) (k:ik w w'):Rd B q A c L en eA ec el w' i:=⟨h.blk.after,tD h.aft k,h.le,h.tk,h.ens,h.few,h.num⟩
theorem Rd.fields (h:Rd B q A c L en eA ec el w i):w.cell? q=some (.slice A L.length c)/\w.cell? ⟨q,1,none⟩=some (.int .i64 en)/\w.cell? ⟨q,2,none⟩=some (.int .i64 (i:Nat))/\w.cell? ⟨q,3,none⟩=some (.slice eA el.length ec)/\w.frozen? ⟨q,2,none⟩=false/\Le (q+1) w:=
 ⟨(h.blk.cell 0).trans rfl,(h.blk.cell 1).trans rfl,(h.blk.cell 2).trans rfl,(h.blk.cell 3).trans rfl,h.blk.frozen 2,h.blk.is_le⟩
theorem Rd.move (h:Rd B q A c L en eA ec el w i) {j:Nat} (hj:j<=L.length):Rd B q A c L en eA ec el (w.setCell ⟨q,2,none⟩ (.int .i64 (j:Nat))) j:=
 ⟨h.blk.jx 2 (.int .i64 (j:Nat)),by rw[jJ];exact h.aft,hj,h.tk,h.ens,h.few,h.num⟩
theorem Rd.toks (h:Rd B q A c L en eA ec el w i):ir 3 Om w ⟨A,c,L⟩:=(h.tk.below xB h.aft.below).sub GC (yI q w)
theorem Rd.enums (h:Rd B q A c L en eA ec el w i):ir 2 sM w ⟨eA,ec,el⟩:=(h.ens.below lU h.aft.below).sub rH (yI q w)
theorem Rd.at_ (h:Rd B q A c L en eA ec el w i) {j:Nat} (hj:j<L.length):∃(b p:Nat) (k:Int) (t:ByteArray) (n:Nat),A=some ⟨b,p,none⟩/\Le (b+1) w/\Hid (L[j]?=some ⟨k,t⟩)/\t.size<=65536/\n<=65536/\w.cell? ⟨b,p+j*3,none⟩=some (.int .i64 k)/\w.cell? ⟨b,p+j*3+1,none⟩=some (.string t)/\w.cell? ⟨b,p+j*3+2,none⟩=some (.int .i64 n):=by
 obtain⟨b,p,y,e,J,o,hp⟩:=h.toks.part (i:=j) hj;obtain⟨n,I,R⟩:=hp.c2;exact⟨b,p,y.kind,y.text,n,e,J,o,hp.nm,I,hp.c0,hp.c1,R⟩
theorem Rd.bounds (h:Rd B q A c L en eA ec el w i):i<=L.length/\L.length<=65536/\L.length<=c/\c<=9223372036854775807:=⟨h.le,h.few,h.tk.le,h.tk.cap⟩
end
def wg (s:ByteArray) (t:Tk):Bool:=(t.kind==3||t.kind==4)&&t.text.toList==s.toList
def jq (s:ByteArray):List Tk->Bool
 |[]=>false
 |t::_=>wg s t
def ju (k:Int):List Tk->Bool
 |[]=>false
 |t::_=>t.kind==k
theorem oU {α:Type} {L:List α} {j:Nat} {x:α} (h:L[j]?=some x):L.drop j=x::L.drop (j+1):=by
 obtain⟨o,rfl⟩:=rq.1 h;exact MG o
section
variable {B:World} {q:Nat} {A:Option Addr} {c:Nat} {L:List Tk} {en:Int} {eA:Option Addr} {ec:Nat} {el:List iW} {w:World} {i:Nat}
theorem Qp (h:Rd B q A c L en eA ec el w i) (j:Int) (h0:0<=j):Calls prog 73 #[.pointer (some q),j] w fun e w'=>(∃a:Int,e=.returned (.int .i64 a))/\ik w w':=by
 obtain⟨k,rfl⟩:=Int.eq_ofNat_of_zero_le h0;obtain⟨b1,b2,b3,b4⟩:=h.bounds;obtain⟨c0,c1,c2,c3,f2,l0⟩:=h.fields;by_cases I:k<L.length
 ·have o:(k:Int)<(L.length:Int):=iu
  obtain⟨b,p,kd,t,n,rfl,hl,hy,ht,hn,U,R,J⟩:=h.at_ I;go_in;go_wp2;go_ret;exact⟨⟨_,rfl⟩,iR⟩
 have o:¬((k:Int)<(L.length:Int)):=iu;go_in;go_wp2;go_ret;exact⟨⟨_,rfl⟩,iR⟩
theorem nj (h:Rd B q A c L en eA ec el w i) (j:Int) (h0:0<=j) (er:Int):Calls prog 37 #[.pointer (some q),j,er] w fun e w'=>(∃a:Int,e=oD a er)/\ik w w':=by
 have I:=iy (Qp h j h0);go_in;go_wp2_with fail;refine I.mono ?_;rintro e J ⟨⟨a,rfl⟩,o⟩;go_wp2;exact⟨rfl,⟨a,rfl⟩,o⟩
theorem No (h:Rd B q A c L en eA ec el w i) (j:Nat) (s:ByteArray):Calls prog 68 #[.pointer (some q),.int .i64 (j:Nat),s] w fun e w'=>e=.returned (.bool (jq s (L.drop j)))/\ik w w':=by
 obtain⟨b1,b2,b3,b4⟩:=h.bounds;obtain⟨c0,c1,c2,c3,f2,l0⟩:=h.fields;by_cases hj:j<L.length
 ·have a1:(j:Int)<(L.length:Int):=iu
  have U:¬((L.length:Int)<=(j:Int)):=iu;obtain⟨b,p,I,t,n,rfl,hl,hy,ht,hn,t0,t1,t2⟩:=h.at_ hj;have o:Hid (jq s (L.drop j)=((I==3||I==4)&&t.toList==s.toList)):=by show _=_;rw[oU hy.out];rfl
  generalize jq s (L.drop j)=X at o;obtain⟨z3,R⟩:=jt ((I==3));obtain⟨z4,J⟩:=jt ((I==4));rw[R,J]at o;cases z3<;>cases z4 <;>
  ·go_in
   go_wp2;go_ret;exact⟨iK (by rw[o.out];simp),iR⟩
 ·have a1:¬((j:Int)<(L.length:Int)):=iu
  have U:((L.length:Int)<=(j:Int)):=iu;have o:Hid (jq s (L.drop j)=false):=by show _=_;rw[Bn (wb hj)];rfl
  go_in;go_wp2;go_ret;exact⟨iK o.symm,iR⟩
end
def pk {α:Type} (B:World) (q:Nat) (A:Option Addr) (c:Nat) (L:List Tk) (en:Int) (eA:Option Addr) (ec:Nat) (el:List iW) (w:World) (i0:Nat) (r:Option (α×List Tk)) (val:α->World->Value->Prop) (e:Ending) (w':World):Prop:=ik (iz q w) (iz q w')/\match r with
 |some (x,rest)=>∃(v:Value) (i':Nat),e=.returned v/\val x w' v/\Rd B q A c L en eA ec el w' i'/\L.drop i'=rest/\i0<=i'
 |none=>Fl e
section
variable {α:Type} {B:World} {q:Nat} {A:Option Addr} {c:Nat} {L:List Tk} {en:Int} {eA:Option Addr} {ec:Nat} {el:List iW} {w w1 w':World} {val:α->World->Value->Prop}
theorem pk.none {i0:Nat} {r:Option (α×List Tk)} {e:Ending} (h:r=none) (a:ik (iz q w) (iz q w')) (hf:Fl e):pk B q A c L en eA ec el w i0 r val e w':=by subst h;exact⟨a,hf⟩
theorem pk.some {i0:Nat} {r:Option (α×List Tk)} {x:α} {rest:List Tk} {v:Value} {i:Nat} (h:r=some (x,rest)) (a:ik (iz q w) (iz q w')) (hv:val x w' v) (hR:Rd B q A c L en eA ec el w' i) (hd:L.drop i=rest) (hi:i0<=i):pk B q A c L en eA ec el w i0 r val (.returned v) w':=by subst h;exact⟨a,v,i,rfl,hv,hR,hd,hi⟩
theorem Rd.idx {i:Nat} {rest:List Tk} (h:Rd B q A c L en eA ec el w i) (hd:L.drop i=rest):i+rest.length=L.length:=by
 rw[<- hd,nY];have:=h.le;omega
theorem jz (a er:Int) (h:er≠0):Fl (oD a er):=⟨a,er,rfl,h⟩
end
end
section
section
variable {B:World} {q:Nat} {A:Option Addr} {c:Nat} {L:List Tk} {en:Int} {eA:Option Addr} {ec:Nat} {el:List iW} {w:World} {i:Nat}
theorem nK (h:Rd B q A c L en eA ec el w i) (s:ByteArray):Calls prog 30 #[.pointer (some q),s] w fun e w'=>e=.returned (.bool (jq s (L.drop i)))/\ik w w':=by
 obtain⟨c0,c1,c2,U,R,J⟩:=h.fields;have j:=iy (No h i s);generalize jq s (L.drop i)=z at j;go_in;go_wp2_with fail;refine j.mono ?_;rintro e I ⟨rfl,o⟩;go_wp2;go_ret;exact⟨rfl,o⟩
theorem qv (h:Rd B q A c L en eA ec el w i) (k:Int):Calls prog 34 #[.pointer (some q),k] w fun e w'=>e=.returned (.bool (ju k (L.drop i)))/\ik w w':=by
 obtain⟨b1,b2,b3,b4⟩:=h.bounds;obtain⟨c0,c1,c2,c3,f2,l0⟩:=h.fields;by_cases I:i<L.length
 ·have o:(i:Int)<(L.length:Int):=iu
  obtain⟨b,p,R,t,n,rfl,hl,U,ht,hn,t0,t1,t2⟩:=h.at_ I;have j:Hid (ju k (L.drop i)=(R==k)):=by show _=_;rw[oU U.out];rfl
  generalize ju k (L.drop i)=X at j;go_in;go_wp2_with fail;refine iE kp kp ?_;repeat (go_big_quiet_step (fail))
  refine wpQuiet_nil ?_;rintro _ ⟨J,rfl⟩;go_wp2;go_ret;exact⟨iK j.symm,iR⟩
 have o:¬((i:Int)<(L.length:Int)):=iu;have j:Hid (ju k (L.drop i)=false):=by show _=_;rw[Bn (wb I)];rfl
 generalize ju k (L.drop i)=X at j;go_in;go_wp2_with fail;refine iE kp kp ?_;repeat (go_big_quiet_step (fail))
 refine wpQuiet_nil ?_;rintro _ ⟨J,rfl⟩;go_wp2;go_ret;exact⟨iK j.symm,iR⟩
theorem pI {s:ByteArray} (h:jq s (L.drop i)=true):i<L.length:=by
 rcases qa i L.length with j | j
 ·exact j
 rw[Bn j]at h;cases h
theorem rX {k:Int} (h:ju k (L.drop i)=true):i<L.length:=by
 rcases qa i L.length with j | j
 ·exact j
 rw[Bn j]at h;cases h
theorem tB (h:Rd B q A c L en eA ec el w i) (s:ByteArray):Calls prog 35 #[.pointer (some q),s] w fun e w'=>∃z,jq s (L.drop i)=z/\e=.returned (.bool z)/\Rd B q A c L en eA ec el w' (if z then i+1 else i)/\ik (iz q w) (iz q w'):=by
 obtain⟨b1,b2,b3,b4⟩:=h.bounds;have I:=iy (nK h s);have HM:jq s (L.drop i)=true->i<L.length:=pI;obtain⟨z,J⟩:=jt (jq s (L.drop i));rw[J]at I HM;have U:=iy J;have H:=iy h;cases z
 ·go_in
  go_wp2_with fail;refine I.mono ?_;rintro e w1 ⟨rfl,o⟩;go_wp2;go_ret;exact⟨false,U,rfl,H.after o,im o⟩
 have hi:=HM rfl;go_in;go_wp2_with fail;refine I.mono ?_;rintro e w1 ⟨rfl,o⟩;have R:=H.after o;obtain⟨c0,c1,c2,c3,f2,l0⟩:=R.fields;have R2:=iy (R.move (j:=i+1) hi);go_wp2;go_ret;exact⟨true,U,rfl,R2,by rw[jJ];exact im o⟩
def pV:List Tk->Option (ByteArray×List Tk)
 |[]=>none
 |t::l=>if t.kind==1 then some (t.text,l) else none
theorem qb (h:Rd B q A c L en eA ec el w i):Calls prog 32 #[.pointer (some q)] w (pk B q A c L en eA ec el w i (pV (L.drop i)) fun s w' v=>v=.string s/\s.size<=65536):=by
 obtain⟨b1,b2,b3,b4⟩:=h.bounds;have HK:=iy (qv h 1);have HM:ju 1 (L.drop i)=true->i<L.length:=rX;obtain⟨z,hz⟩:=jt (ju 1 (L.drop i));rw[hz]at HK HM;have HZ:=iy hz;have H:=iy h;cases z
 ·have HX:Hid (pV (L.drop i)=none):=by
   show _=_
   have I:=HZ.out;cases hd:L.drop i with
   |nil=>rfl
   |cons t l=>
   rw[hd]at I;show (if t.kind==1 then _ else _)=_
   rw[show (t.kind==1)=false from I];rfl
  go_in;go_wp2_with fail;refine HK.mono ?_;rintro e w1 ⟨rfl,J⟩;have R:=H.after J;obtain⟨c0,c1,c2,c3,f2,l0⟩:=R.fields;have HF:=iy (nj R i iu 5);go_wp2_with fail;refine HF.mono ?_;rintro e w2 ⟨⟨a,rfl⟩,a2⟩;unfold oD;go_wp2;exact⟨rfl,pk.none HX (im (ij J a2)) (jz a 5 iI)⟩
 have hi:=HM rfl;have a8:(i:Int)<(L.length:Int):=iu;have a7:(0:Int)<=(i:Int):=iu;obtain⟨t,ht⟩:∃t,L[i]?=some t:=⟨_,qn hi⟩;have HX:Hid (pV (L.drop i)=some (t.text,L.drop (i+1))):=by
  show _=_
  have I:=HZ.out;rw[oU ht]at I⊢;show (if t.kind==1 then _ else _)=_
  rw[show (t.kind==1)=true from I];rfl
 have HT:=iy ht;go_in;go_wp2_with fail;refine HK.mono ?_;rintro e w1 ⟨rfl,J⟩;have R:=H.after J;obtain⟨c0,c1,c2,c3,f2,l0⟩:=R.fields;obtain⟨w2,U,R2,a2⟩:∃v,w1.setCell ⟨q,2,none⟩ (.int .i64 ((i:Int)+1))=v/\Hid (Rd B q A c L en eA ec el v (i+1))/\ik (iz q w) (iz q v):=⟨_,rfl,R.move (j:=i+1) hi,by rw[jJ];exact im J⟩;obtain⟨d0,d1,d2,d3,g2,m0⟩:=R2.fields;obtain⟨b,p,kd,t',n,rfl,hl,hy,a6,hn,t0,t1,t2⟩:=R2.at_ hi;go_wp2_with fail;try rw[U]
 refine iE kp kp ?_;repeat (go_big_quiet_step (fail))
 refine wpQuiet_nil ?_;rintro _ ⟨y_,rfl⟩;go_wp2;go_ret;have o:=sI (HT.symm.trans hy);exact pk.some HX (ij a2 (im iR)) ⟨by rw[o];rfl,by rw[o];exact a6⟩ (R2.after iR) rfl (uR _)
def To (w:World) (n m:Int) (e:Ending) (w':World):Prop:=ik w w'/\((n<m/\e=.returned (.tuple #[]))\/(m<=n/\Fl e))
theorem mF (h:Rd B q A c L en eA ec el w i) (n m:Int):Calls prog 31 #[.pointer (some q),n,m] w (To w n m):=by
 obtain⟨c0,c1,c2,c3,f2,U⟩:=h.fields;have J:=iy (nj h i iu 3);by_cases o:m<=n
 ·go_in
  go_wp2_with fail;refine J.mono ?_;rintro e R ⟨⟨a,rfl⟩,I⟩;have j:=jz a 3 iI;unfold oD at j⊢;go_wp2;exact⟨rfl,I,.inr ⟨o,j⟩⟩
 go_in;go_wp2;go_end0;exact⟨iR,.inl ⟨iu,rfl⟩⟩
end
end
section
theorem F4.sub {W w:World} {A c l} (h:F4 W A c l) (k:CU W w):F4 w A c l:=
 ⟨fun j s hj=>(by obtain⟨b,o,e,hlt,hc⟩:=h.cells j s hj;exact⟨b,o,e,rO hlt k.size,k.cell _ _ _ hc⟩),h.le,h.cap,h.len⟩
def iF:List ByteArray->List Tk->Option (Unit×List Tk)
 |[],ts=>some ((),ts)
 |s::l,ts=>if jq s ts then iF l ts.tail else none
section
variable {B:World} {q:Nat} {A:Option Addr} {c:Nat} {L:List Tk} {en:Int} {eA:Option Addr} {ec:Nat} {el:List iW} {w:World} {i:Nat}
theorem tail_drop {α:Type} (L:List α) (i:Nat):(L.drop i).tail=L.drop (i+1):=by rw[List.tail_drop]
theorem L3 {mA:Option Addr} {mc:Nat} {l:List ByteArray} (h:Rd B q A c L en eA ec el w i) (hl:F4 (iz q w) mA mc l):Calls prog 33 #[.pointer (some q),.slice mA l.length mc] w (pk B q A c L en eA ec el w i (iF l (L.drop i)) fun _ _ v=>v=.tuple #[]):=by
 obtain⟨X,hX⟩:=jt (iF l (L.drop i));rw[hX];have U:=iy hX;have a8:=hl.len;have a_:=hl.cap;have a':=hl.le;have HL:=iy hl;have H:=iy h;go_in;go_wp2_with fail;go_loopw [8] (fun j wr=>∃k i':Nat,k<=l.length/\Hid (i<=i')/\j=.int .i64 (k:Nat)/\Hid (iF (l.drop k) (L.drop i')=X)/\Hid (Rd B q A c L en eA ec el wr i')/\ik (iz q w) (iz q wr)) (fun j _=>l.length-(intOf j).toNat)
 case atStart=>exact⟨0,i,iu,js i,rfl,U,H,iq _⟩
 case round=>
 obtain⟨k,i,hk,J,rfl,U,H,aw⟩:=hrel;by_cases a6:k<l.length
 ·have I:(k:Int)<(l.length:Int):=iu
  obtain⟨b,o,s,rfl,lb,hc,hy⟩:=((HL.here (iz q wr)).sub (yI q wr)).at_ a6;have HT:=iy (tB H s);have HE:Hid (iF (l.drop k) (L.drop i)=if jq s (L.drop i) then iF (l.drop (k+1)) (L.drop (i+1)) else none):=by
   show _=_
   rw[oU hy.out,<- tail_drop L i];rfl
  go_wp2_with fail;refine HT.mono ?_;rintro e w1 ⟨z,hz,rfl,R,a1⟩;have HZ:=iy hz;cases z
  ·obtain⟨c0,c1,c2,c3,f2,l0⟩:=R.fields
   have HF:=iy (nj R i iu 5);go_wp2_with fail;refine HF.mono ?_;rintro e w2 ⟨⟨a,rfl⟩,a2⟩;unfold oD;go_wp2;exact⟨rfl,pk.none (by rw[<- U.out,HE.out,HZ.out];rfl) (ij aw (ij a1 (im a2))) (jz a 5 iI)⟩
  have R:=iy R;go_wp2;go_roundw
  case rel=>exact⟨k+1,i+1,by omega,wc J,by go_num,by (show _=_;rw[<- U.out,HE.out,HZ.out];rfl),R,ij aw a1⟩
  case measure=>simp[intOf];omega
 have I:¬((k:Int)<(l.length:Int)):=iu;have a7:Hid (X=some ((),L.drop i)):=by show _=_;rw[<- U.out,Bn iu];rfl
 go_wp2;go_end0;exact pk.some a7 aw rfl H rfl J
def AB (s:ByteArray):List iW->Nat->Option (Int×Int)
 |[],_=>none
 |u::l,j=>if 0<=Lib.idxOfS u.tags.l s then some (3+((j:Nat):Int),Lib.idxOfS u.tags.l s) else AB s l (j+1)
def qh (el:List iW) (s:ByteArray):Option (Int×Int):=AB s el 0
def Sm (w:World) (r:Option (Int×Int)) (e:Ending) (w':World):Prop:=ik w w'/\match r with
 |some (t,v)=>e=.returned (.tuple #[t,v,.bool true])
 |none=>e=.returned (.tuple #[.int .i64 0,.int .i64 0,.bool false])
theorem DX (zs:List ByteArray) (x:ByteArray):-1<=Lib.idxOfS zs x/\Lib.idxOfS zs x<(zs.length:Int):=by
 have:∀(zs:List ByteArray) (i:Nat),-1<=Lib.idxFromS zs x i/\Lib.idxFromS zs x i<(zs.length:Int)+i:=by
  intro zs;induction zs with
  |nil=>intro i;simp[Lib.idxFromS];omega
  |cons z zs ih=>
  intro i;have:=ih (i+1);unfold Lib.idxFromS;split
  ·simp;omega
  simp at this⊢;omega
 have:=this zs 0;unfold Lib.idxOfS;simpa using this
theorem LD {w0:World} {x:nB ByteArray} (h:ir 1 sR w0 x) (s:ByteArray) (U:World) (hU:ik w0 U):Calls prog 167 #[.slice x.A x.l.length x.c,s] U fun e w'=>e=.returned (.int .i64 (Lib.idxOfS x.l s))/\w'=U:=by
 obtain⟨xA,J,I⟩:=x;have h:=h.strs U;rcases h.cells with e | ⟨b,p,e,hlt,hc⟩
 ·simp only[]at e⊢
  subst e;exact slices_Index_string_empty xA J s U
 simp only[]at e⊢;subst e;have o:=h.len;have:=slices_Index_string b p I.length J I s U (js _) (by have:I.length<=_:=o;omega) (fun j R=>by
  have h1:=(hc j I[j] (by simp[R])).1;rw[yr]at h1;rw[h1,wC,qn R];rfl)
 rwa [pf]at this
theorem ED (h:Rd B q A c L en eA ec el w i) (s:ByteArray):Calls prog 176 #[.pointer (some q),s] w (Sm w (qh el s)):=by
 obtain⟨c0,c1,c2,c3,f2,l0⟩:=h.fields;have HE:=iy h.enums;have a1:=h.enums.len;have a6:=h.enums.cap;have a8:=h.enums.le;obtain⟨X,hX⟩:=jt (qh el s);rw[hX];have HX:=iy hX;simp only[]at a1 a6 a8;go_in;go_wp2_with fail;go_loopw [15] (fun j wr=>∃k:Nat,k<=el.length/\j=.int .i64 (k:Nat)/\Hid (AB s (el.drop k) k=X)/\ik w wr) (fun j _=>el.length-(intOf j).toNat)
 case atStart=>exact⟨0,iu,rfl,HX,iq _⟩
 case round=>
 obtain⟨k,hk,rfl,HX,aw⟩:=hrel;by_cases a7:k<el.length
 ·have R:(k:Int)<(el.length:Int):=iu
  obtain⟨b,p,u,rfl,lb,hy,hp⟩:=(HE.enums wr).part a7;have HI:=iy (fun U hU=>LD hp.tg s U hU);have k0:=hp.c0;have k1:=hp.c1;have a':=hp.tg.len;have aa:=hp.tg.cap;have HS:Hid (AB s (el.drop k) k=if 0<=Lib.idxOfS u.tags.l s then some (3+((k:Nat):Int),Lib.idxOfS u.tags.l s) else AB s (el.drop (k+1)) (k+1)):=by show _=_;rw[oU hy.out];rfl
  have a_:=DX u.tags.l s;generalize Lib.idxOfS u.tags.l s=m at HI HS a_;by_cases hm:0<=m
  ·have J:Hid (X=some (3+((k:Nat):Int),m)):=by show _=_;rw[<- HX.out,HS.out,iG hm]
   go_wp2_with fail;refine (HI _ inferInstance).mono ?_;rintro e w1 ⟨rfl,I⟩;obtain⟨w2,o,a2⟩:∃v,w1=v/\ik w v:=⟨_,rfl,by rw[I];exact ij aw iR⟩;rw[o];go_wp2;exact jR (v:=.tuple #[.int .i64 (3+(k:Nat)),m,.bool true]) (by simp[results,results176,go_sem]) rfl ⟨a2,by rw[J.out]⟩
  go_wp2_with fail;refine (HI _ inferInstance).mono ?_;rintro e w1 ⟨rfl,I⟩;obtain⟨w2,o,a2⟩:∃v,w1=v/\ik w v:=⟨_,rfl,by rw[I];exact ij aw iR⟩;rw[o];go_wp2;go_roundw
  case rel=>exact⟨k+1,iu,by go_num,by (show _=_;rw[<- HX.out,HS.out,iV iu]),a2⟩
  case measure=>simp[intOf];omega
 have R:¬((k:Int)<(el.length:Int)):=iu;have J:Hid (X=none):=by show _=_;rw[<- HX.out,Bn iu];rfl
 go_wp2;exact jR (v:=.tuple #[.int .i64 0,.int .i64 0,.bool false]) (by simp[results,results176,go_sem]) rfl ⟨aw,by rw[J.out]⟩
theorem jH (h:Rd B q A c L en eA ec el w i) (l:List ByteArray) (hl:l.length<=2000000):Calls prog 33 #[.pointer (some q),.slice (some ⟨w.heap.size,0,none⟩) l.length l.length] (w.alloc (.cells (l.map Value.string).toArray 9)) (pk B q A c L en eA ec el w i (iF l (L.drop i)) fun _ _ v=>v=.tuple #[]):=by
 have j:=jC w 9 (l.map Value.string).toArray;have o:=h.blk.lt;refine (L3 (h.after (w':=w.alloc (.cells (l.map Value.string).toArray 9)) inferInstance) (F4.Oh (j.mask (by omega)) hl)).mono ?_;intro e w' hE;exact⟨ij (im iR) hE.1,hE.2⟩
def l_ (el:List iW) (ts:List Tk):Option ((Int×Int)×List Tk):=
 if jq ⟨#[116,114,117,101]⟩ ts then some ((1,1),ts.tail) else if jq ⟨#[102,97,108,115,101]⟩ ts then some ((1,0),ts.tail) else match pV ts with
 |none=>none
 |some (s,r)=>match qh el s with
  |none=>none
  |some tv=>some (tv,r)
theorem mm {ts r:List Tk} {s:ByteArray} (h:pV ts=some (s,r)):ts.length=r.length+1:=by
 cases ts with
 |nil=>cases h
 |cons t l=>
 have e:pV (t::l)=if t.kind==1 then some (t.text,l) else none:=rfl
 rw[e]at h;by_cases j:(t.kind==1)=true
 ·rw[iG j]at h
  injection h with h
  injection h with h1 h2
  rw[<- h2];rfl
 rw[iV j]at h;cases h
theorem wy (h:Rd B q A c L en eA ec el w i):Calls prog 168 #[.pointer (some q)] w (pk B q A c L en eA ec el w i (l_ el (L.drop i)) fun tv _ v=>v=.tuple #[tv.1,tv.2]):=by
 obtain⟨X,hX⟩:=jt (l_ el (L.drop i));rw[hX];have HX:=iy hX;have H1:=iy (tB h ⟨#[116,114,117,101]⟩);have H:=iy h;go_in;go_wp2_with fail;refine H1.mono ?_;rintro e w1 ⟨z,hz,rfl,R1,a1⟩;have HZ:=iy hz;cases z
 ·have H2:=iy (tB R1 ⟨#[102,97,108,115,101]⟩)
  go_wp2_with fail;refine H2.mono ?_;rintro e w2 ⟨z2,a7,rfl,R2,a2⟩;have a6:=iy a7;have a2:=ij a1 a2;cases z2
  ·have H3:=iy (qb R2)
   have I:Hid (X=match pV (L.drop i) with | none=>none | some (s,r)=>match qh el s with | none=>none | some tv=>some (tv,r)):=by
    show _=_
    have h1:jq ⟨#[116,114,117,101]⟩ (L.drop i)=false:=HZ;have h2:jq ⟨#[102,97,108,115,101]⟩ (L.drop i)=false:=a6;rw[<- HX.out];unfold l_;rw[h1,h2];rfl
   have j:∀s r,pV (L.drop i)=some (s,r)->(L.drop i).length=r.length+1:=fun s r h=>mm h
   have a':(L.drop i).length<=L.length:=by rw[nY];omega
   simp only[Bool.false_eq_true,if_false]at H3;revert H3 I j;generalize pV (L.drop i)=Y;intro I j H3;go_wp2_with fail;refine H3.mono ?_;rintro e w3 ⟨a3,hY⟩;have a3:=ij a2 a3;cases Y with
   |none=>
    obtain⟨a,er,rfl,he⟩:=hY;unfold oD;go_wp2;exact⟨rfl,pk.none I a3 (jz a er he)⟩
   |some y=>
   obtain⟨s,r⟩:=y;obtain⟨v,i3,rfl,⟨rfl,hs⟩,R3,hr,R⟩:=hY;have R:=iy R;have a_:=R3.idx hr;have hl:=j s r rfl;have H4:=iy (ED R3 s);have R3:=iy R3;go_wp2_with fail;refine H4.mono ?_;rintro e w4 ⟨a4,J⟩;have o:Hid (X=match qh el s with | none=>none | some tv=>some (tv,r)):=I;revert o J;generalize qh el s=Z;intro J o;cases Z with
   |none=>
    have J:e=_:=J;subst J;have R4:=R3.after a4;obtain⟨c0,c1,c2,c3,f2,l0⟩:=R4.fields;have a8:(0:Int)<=(i3:Int)-1:=by omega
    have HF:=iy (nj R4 ((i3:Int)-1) a8 6);obtain⟨b1,b2,b3,b4⟩:=R4.bounds;go_wp2_with fail;refine HF.mono ?_;rintro e w5 ⟨⟨a,rfl⟩,a5⟩;unfold oD;go_wp2;exact⟨rfl,pk.none o (ij a3 (im (ij a4 a5))) (jz a 6 iI)⟩
   |some tv=>
   have J:e=_:=J;subst J;go_wp2;exact jR (v:=.tuple #[tv.1,tv.2]) (by simp[results,results168,go_sem]) rfl (pk.some o (ij a3 (im a4)) rfl (R3.after a4) hr R)
  go_wp2_with fail;have U:X=some ((1,0),L.drop (i+1)):=by
   have h1:jq ⟨#[116,114,117,101]⟩ (L.drop i)=false:=HZ;have h2:jq ⟨#[102,97,108,115,101]⟩ (L.drop i)=true:=a6;rw[<- HX.out];unfold l_;rw[h1,h2,tail_drop];rfl
  exact jR (v:=.tuple #[.int .i64 1,.int .i64 0]) (by simp[results,results168,go_sem]) rfl (pk.some U a2 rfl R2 rfl (uR _))
 go_wp2_with fail;have U:X=some ((1,1),L.drop (i+1)):=by
  have h1:jq ⟨#[116,114,117,101]⟩ (L.drop i)=true:=HZ;rw[<- HX.out];unfold l_;rw[h1,tail_drop];rfl
 exact jR (v:=.tuple #[.int .i64 1,.int .i64 1]) (by simp[results,results168,go_sem]) rfl (pk.some U a1 rfl R1 rfl (uR _))
end
end
section
section
variable {B:World} {q:Nat} {A:Option Addr} {c:Nat} {L:List Tk} {en:Int} {eA:Option Addr} {ec:Nat} {el:List iW} {w w0 w1:World} {i:Nat}
theorem uD.Qn {r:Nat} (hr:w0.heap.size<=r):uD (iz q w0) r:=⟨by rw[iZ];exact hr⟩
theorem La {r:Nat} {T:TypeId} {z0 z1 z2:Value} (hB:iP w1 r T #[z0,z1,z2]) (R:Rd B q A c L en eA ec el w1 i) (hrq:r≠q) (aw:ik (iz q w0) (iz q w1)) (hr:w0.heap.size<=r) (hB0:B.heap.size<=r) (u0 u1 u2:Value) :
  ∃W,((w1.setCell r u0).setCell ⟨r,1,none⟩ u1).setCell ⟨r,2,none⟩ u2=W/\W.cell? r=some u0/\W.cell? ⟨r,1,none⟩=some u1/\W.cell? ⟨r,2,none⟩=some u2/\Rd B q A c L en eA ec el W i/\ik (iz q w0) (iz q W):=by
 have j:=((hB.jx 0 u0).jx 1 u1).jx 2 u2;have I:uD (iz q w0) r:=uD.Qn hr;have o:uD B r:=⟨hB0⟩;refine⟨_,rfl,(j.cell 0).trans rfl,(j.cell 1).trans rfl,(j.cell 2).trans rfl,⟨((R.blk.qU (p:=⟨r,0,none⟩) (ls hrq) _).qU (p:=⟨r,1,none⟩) (ls hrq) _).qU (p:=⟨r,2,none⟩) (ls hrq) _,?_,R.le,R.tk,R.ens,R.few,R.num⟩,iJ (h:=iJ (h:=iJ (h:=aw) 0 _) 1 _) 2 _⟩;exact iJ (h:=iJ (h:=iJ (h:=R.aft) 0 _) 1 _) 2 _
theorem Rd.base (h:Rd B q A c L en eA ec el w i):B.heap.size<=w.heap.size:=Po h.aft
def mD (el:List iW) (ts:List Tk):Option (sO×List Tk):=(l_ el ts).bind fun (tv,r)=>(iF [⟨#[40]⟩] r).bind fun (_,r)=>(pV r).bind fun (s,r)=>(iF [⟨#[41]⟩] r).bind fun (_,r)=>some (⟨s,tv.1,tv.2⟩,r)
theorem qW (h:Rd B q A c L en eA ec el w i):Calls prog 151 #[.pointer (some q)] w (pk B q A c L en eA ec el w i (mD el (L.drop i)) fun x _ v=>v=.agg #[.string x.name,.int .i64 x.t,.int .i64 x.tag]/\x.name.size<=65536):=by
 obtain⟨X,hX⟩:=jt (mD el (L.drop i));rw[hX];obtain⟨i0,ai⟩:=jt (i);rw[ai]at hX h⊢;have I:=iy hX.symm;have aa:Hid (i0<=i0):=js _;have hq:=h.blk.lt;have aj:=h.base;obtain⟨r,J⟩:=jt (w.heap.size);have a6:r≠q:=by omega
 obtain⟨w0,ab,aw0,B0,R0⟩:∃v,w.alloc (.cells #[.string ⟨#[]⟩,.int .i64 0,.int .i64 0] 178)=v/\ik w v/\iP (iz q v) r 178 #[.string ⟨#[]⟩,.int .i64 0,.int .i64 0]/\Hid (Rd B q A c L en eA ec el v i0):=⟨_,rfl,iR,by rw[<- J];exact BR (jC ..) iu,h.after iR⟩;have HB:=iy B0;have a0:ik (iz q w0) (iz q w0):=iq _;go_in;go_wp2_with fail;try rw[J]
 try rw[ab]
 have U:=iy (wy R0);have I:Hid (X=Option.bind (l_ el (L.drop i0)) _):=I;generalize aq:l_ el (L.drop i0)=Y at U I;go_wp2_with fail;refine U.mono ?_;rintro e w1 ⟨j,R⟩;have j:=ij a0 j;cases Y with
 |none=>
  obtain⟨a,er,rfl,he⟩:=R;unfold oD;go_wp2;exact⟨rfl,pk.none I (ij (im aw0) j) (jz a er he)⟩
 |some y=>
 obtain⟨x1,r1⟩:=y;obtain⟨v1,i1,rfl,ag,RZ,J,hi⟩:=R;subst J;have R1:=iy RZ;have a1:=j;have a':=iy (jW aa hi);subst ag;have U:=iy (jH R1 [⟨#[40]⟩] iI);have I:Hid (X=Option.bind (iF [⟨#[40]⟩] (L.drop i1)) _):=I;generalize ao:iF [⟨#[40]⟩] (L.drop i1)=Y at U I;go_wp2_with fail;refine U.mono ?_;rintro e w2 ⟨j,R⟩;have j:=ij a1 j;cases Y with
 |none=>
  obtain⟨a,er,rfl,he⟩:=R;unfold oD;go_wp2;exact⟨rfl,pk.none I (ij (im aw0) j) (jz a er he)⟩
 |some y=>
 obtain⟨x2,r2⟩:=y;obtain⟨v2,i2,rfl,af,RZ,J,hi⟩:=R;subst J;have R2:=iy RZ;have a2:=j;have a_:=iy (jW a' hi);subst af;have U:=iy (qb R2);have I:Hid (X=Option.bind (pV (L.drop i2)) _):=I;generalize an:pV (L.drop i2)=Y at U I;go_wp2_with fail;refine U.mono ?_;rintro e w3 ⟨j,R⟩;have j:=ij a2 j;cases Y with
 |none=>
  obtain⟨a,er,rfl,he⟩:=R;unfold oD;go_wp2;exact⟨rfl,pk.none I (ij (im aw0) j) (jz a er he)⟩
 |some y=>
 obtain⟨x3,r3⟩:=y;obtain⟨v3,i3,rfl,ae,RZ,J,hi⟩:=R;subst J;have R3:=iy RZ;have a3:=j;have a8:=iy (jW a_ hi);obtain⟨rfl,ah⟩:=ae;have U:=iy (jH R3 [⟨#[41]⟩] iI);have I:Hid (X=Option.bind (iF [⟨#[41]⟩] (L.drop i3)) _):=I;generalize al:iF [⟨#[41]⟩] (L.drop i3)=Y at U I;go_wp2_with fail;refine U.mono ?_;rintro e w4 ⟨j,R⟩;have j:=ij a3 j;cases Y with
 |none=>
  obtain⟨a,er,rfl,he⟩:=R;unfold oD;go_wp2;exact⟨rfl,pk.none I (ij (im aw0) j) (jz a er he)⟩
 |some y=>
 obtain⟨x4,r4⟩:=y;obtain⟨v4,i4,rfl,ad,RZ,J,hi⟩:=R;subst J;have R4:=iy RZ;have a4:=j;have a7:=iy (jW a8 hi);subst ad;have o:=(HB.after (k:=a4)).Og a6;have l1:=o.is_le;have f0:=(o.cell 0).trans rfl;have f1:=(o.cell 1).trans rfl;have f2:=(o.cell 2).trans rfl;have g0:=o.frozen 0;have g1:=o.frozen 1;have g2:=o.frozen 2;go_wp2_with fail;obtain⟨W,hW,y0,y1,y2,ak,aW⟩:=La o R4 a6 (ij (im aw0) a4) (lI J) (by omega) (.string x3) (.int .i64 x1.1) (.int .i64 x1.2);rw[hW];exact jR (v:=.agg #[x3,x1.1,x1.2]) (by simp[results,results151,go_sem,y0,y1,y2]) rfl (pk.some (x:=⟨x3,x1.1,x1.2⟩) (show X=some (⟨x3,x1.1,x1.2⟩,L.drop i4) from I) aW ⟨rfl,ah⟩ ak rfl a7)
def rI (ts:List Tk):Bool:=jq ⟨#[45]⟩ ts&&ju 2 ts.tail
theorem ze (h:Rd B q A c L en eA ec el w i):Calls prog 169 #[.pointer (some q)] w fun e w'=>e=.returned (.bool (rI (L.drop i)))/\ik w w':=by
 obtain⟨b1,b2,b3,b4⟩:=h.bounds;obtain⟨c0,c1,c2,c3,f2,l0⟩:=h.fields;have hX:rI (L.drop i)=(jq ⟨#[45]⟩ (L.drop i)&&ju 2 (L.drop (i+1))):=by unfold rI;rw[tail_drop]
 rw[hX];have R:Hid (∀U,ik w U->Calls prog 30 #[.pointer (some q),.string ⟨#[45]⟩] U fun e w'=>e=.returned (.bool (jq ⟨#[45]⟩ (L.drop i)))/\ik U w'):=fun U hU=>nK (h.after hU) _
 have j:jq ⟨#[45]⟩ (L.drop i)=true->i<L.length:=pI;generalize jq ⟨#[45]⟩ (L.drop i)=z at R j;have HK:∀z2,ju 2 (L.drop (i+1))=z2->Hid (ju 2 (L.drop (i+1))=z2):=fun _ h=>h
 cases z
 ·clear h j HK
  go_in;go_wp2_with fail;refine iE kp kp ?_;repeat (go_big_quiet_step ((go_at_call 30;exact mR ((R _ iR).mono fun e w' h=>⟨h.1,jP _ _ (h:=h.2)⟩))))
  refine wpQuiet_nil ?_;rintro _ ⟨y_,rfl⟩;go_wp2;go_ret;exact⟨rfl,iR⟩
 have hi:=j rfl;have a6:(i:Int)<(L.length:Int):=by omega
 by_cases hj:i+1<L.length
 ·have I:(i:Int)+1<(L.length:Int):=iu
  obtain⟨b,p,kd,t,n,rfl,hl,hy,ht,hn,t0,t1,t2⟩:=h.at_ hj;have J:=HK (kd==2) (by rw[oU hy.out];rfl);generalize ju 2 (L.drop (i+1))=X at J;have o:=iy J;go_in;go_wp2_with fail;refine iE kp kp ?_;repeat (go_big_quiet_step ((go_at_call 30;exact mR ((R _ iR).mono fun e w' h=>⟨h.1,jP _ _ (h:=h.2)⟩))))
  refine wpQuiet_nil ?_;rintro _ ⟨y_,rfl⟩;go_wp2;go_ret;exact⟨iK (by rw[o.out];rfl),iR⟩
 have I:¬((i:Int)+1<(L.length:Int)):=iu;have a1:=decide_eq_false I;have J:=HK false (by rw[Bn iu];rfl);generalize ju 2 (L.drop (i+1))=X at J;have o:=iy J;go_in;go_wp2_with fail;refine iE kp kp ?_;repeat (go_big_quiet_step ((go_at_call 30;exact mR ((R _ iR).mono fun e w' h=>⟨h.1,jP _ _ (h:=h.2)⟩))))
 refine wpQuiet_nil ?_;rintro _ ⟨y_,rfl⟩;go_wp2;go_ret;exact⟨iK (by rw[o.out];rfl),iR⟩
end
end
def ud (n:Int) (l:List UInt8):Int:=l.foldl (fun n c=>10*n+((c.toNat:Nat)-48:Int)) n
def rY (s:ByteArray):Int:=ud 0 s.data.toList
theorem FG:∀(l:List UInt8) (n:Int) (k:Nat),(∀c∈l,jw (c.toNat:Nat)=true)->0<=n->n<10 ^ k->0<=ud n l/\ud n l<10 ^ (k+l.length)
 |[],n,k,_,h0,h1=>⟨h0,h1⟩
 |c::l,n,k,hd,h0,h1=>by
  have hc:=hd c (nG ..);unfold jw at hc;simp only[mT,decide_eq_true_eq]at hc;have:=FG l (10*n+((c.toNat:Nat)-48:Int)) (k+1) (fun d h=>hd d (qj _ h)) iu (by rw[Int.pow_succ];omega);rw[show k+(c::l).length=k+1+l.length by rw[py];omega];exact this
theorem K' {s:ByteArray} {k:Nat} (h:k<s.size):ud 0 (s.data.toList.take (k+1))=10*ud 0 (s.data.toList.take k)+((s[k].toNat:Nat)-48:Int):=by
 have j:k<s.data.toList.length:=h;rw[IX j];unfold ud;rw[List.foldl_append];rfl
theorem Cg (s:ByteArray) (hd:∀c∈s.data.toList,jw (c.toNat:Nat)=true) (hs:s.size<=5) (w:World):Calls prog 177 #[s] w fun e w'=>e=.returned (.int .i64 (rY s))/\ik w w':=by
 have hS:Hid (ud 0 (s.data.toList.take s.size)=rY s):=by show _=_;rw[Dn (lI (jr s))];rfl
 generalize rY s=X at hS;have HD:=iy hd;go_in;go_wp2_with fail;go_loopw [3] (fun v wr=>∃(k:Nat) (n:Int),k<=s.size/\v=.int .i64 n/\Hid (ud 0 (s.data.toList.take k)=n)/\0<=n/\n<100000/\Hid (wr=w.iter s k)) (fun _ wr=>s.size-World.iterPos wr w.heap.size)
 case atStart=>exact⟨0,0,iu,rfl,rfl,iu,iu,rfl⟩
 case round=>
 obtain⟨k,n,hk,rfl,hn,h0,h1,hW⟩:=hrel;have hw:=hW.out;subst hw;by_cases j:k<s.size
 ·have hc:48<=s[k].toNat/\s[k].toNat<=57:=by
   have:=HD s[k] (om (by rw[zy j]));unfold jw at this;simp only[mT,decide_eq_true_eq]at this;omega
  have a7:(48:Int)<=(s[k].toNat:Int):=iu;have a6:(s[k].toNat:Int)<=57:=iu;have J:=fun I=>run_next_ascii (P:=prog) w s k I j iu
  have o:=K' j;rw[hn.out]at o;have hb:=FG (s.data.toList.take (k+1)) 0 0 (fun c h=>HD c (List.mem_of_mem_take h)) iu iI;have a8:(10:Int) ^ (0+(s.data.toList.take (k+1)).length)<=100000:=by
   have:0+(s.data.toList.take (k+1)).length<=5:=by rw[Fi,jr];omega
   generalize 0+(s.data.toList.take (k+1)).length=m at this;rcases (by omega:m=0\/m=1\/m=2\/m=3\/m=4\/m=5) with rfl | rfl | rfl | rfl | rfl | rfl<;>decide
  rw[o]at hb;have U:0<=10*n+((s[k].toNat:Int)-48):=hb.1;have R:10*n+((s[k].toNat:Int)-48)<100000:=iu;have HN:=iB o;go_wp2;exact⟨⟨k+1,_,j,rfl,HN,U,R,rfl⟩,by rw[World.iterPos_iter,World.iterPos_iter];omega⟩
 have a1:Hid (n=X):=by show _=_;rw[<- hn.out,<- hS.out,show k=s.size by omega]
 have J:=fun I=>run_next_end (P:=prog) w s k I j
 go_wp2;go_ret;exact⟨by rw[<- a1.out];rfl,Hk _⟩
def B9 (n:Int):List (ByteArray×Int):=if n=0 then [(⟨#[111,114]⟩,4),(⟨#[120,111,114]⟩,5)] else if n=1 then [(⟨#[97,110,100]⟩,3)] else if n=3 then [(⟨#[61]⟩,11),(⟨#[60,62]⟩,12),(⟨#[60]⟩,13),(⟨#[60,61]⟩,14),(⟨#[62]⟩,15),(⟨#[62,61]⟩,16)] else if n=4 then [(⟨#[43]⟩,6),(⟨#[45]⟩,7)] else [(⟨#[42]⟩,8),(⟨#[47]⟩,9),(⟨#[109,111,100]⟩,10)]
def Bq (l:List (ByteArray×Int)):DataW Unit:=l.foldl (fun D x=>D.put (.string x.1.data.toList) (.lit (.int .i64 x.2))) (.map [])
abbrev sE (w:World) (b n:Nat) (D:DataW Unit):Prop:=w.ownsMap prog 9 (plainElem prog 3) b n D
theorem Ns:Maps.Keyed prog 9:=Maps.string_keyed underlying9
theorem sE.put {w:World} {b n:Nat} {D:DataW Unit} (h:sE w b n D) (hn:n<100) (s:ByteArray) (hs:s.size<=100) (v:Int) (hv:(Lit.int .i64 v).wf=true) :
  ∃w',(Instr.mapUpdate 252 (.map (some b)) (.string s) (.int .i64 v)).run prog w=.ok () w'/\sE w' b (n+1) (D.put (.string s.data.toList) (.lit (.int .i64 v)))/\w.grownBy w' (some b):=
 World.ownsMap.update h Ns underlying252 (by unfold maxLen;omega) (WideMaps.keyOf_string_mk underlying9 (by unfold maxLen;omega)) (plainElem_int underlying3 hv)
theorem jS {w w1 w2:World} {b:Nat} (a:ik w w1) (g:w1.grownBy w2 (some b)) (hb:w.heap.size<=b):ik w w2:=
 ⟨⟨g.os.trans a.below.os,g.tape.trans a.below.tape,g.output.trans a.below.output,jW a.below.size g.size,fun k hk=>(g.block k (rO hk a.below.size) (by intro e;injection e with e;omega)).trans (a.below.block k hk)⟩⟩
theorem M9 (n:Int) (hn:n=0) (w:World):Calls prog 171 #[n] w fun e w'=>∃b,e=.returned (.map (some b))/\sE w' b 6 (Bq [(⟨#[111,114]⟩,4),(⟨#[120,111,114]⟩,5)])/\w.heap.size<=b/\ik w w':=by
 have R:=@run_makeMap prog;have J:sE (w.alloc (.map #[] 0)) w.heap.size 0 (.map []):=World.ownsMap_made w prog 9 _;subst hn;obtain⟨w1,r1,I,g1⟩:=J.put (by decide) ⟨#[111,114]⟩ (by decide) 4 (by decide);obtain⟨j,r2,o,U⟩:=I.put (by decide) ⟨#[120,111,114]⟩ (by decide) 5 (by decide);have HO:=iB o;have HA:Hid (ik w j):=(jS (jS (w1:=w.alloc (.map #[] 0)) inferInstance g1 (js _)) U (js _));go_in;go_wp2;go_ret;exact⟨_,rfl,World.ownsMap.mono HO iI,js _,HA⟩
theorem Nf (n:Int) (hn:n=1) (w:World):Calls prog 171 #[n] w fun e w'=>∃b,e=.returned (.map (some b))/\sE w' b 6 (Bq [(⟨#[97,110,100]⟩,3)])/\w.heap.size<=b/\ik w w':=by
 have I:=@run_makeMap prog;have o:sE (w.alloc (.map #[] 0)) w.heap.size 0 (.map []):=World.ownsMap_made w prog 9 _;subst hn;obtain⟨w1,r1,j,J⟩:=o.put (by decide) ⟨#[97,110,100]⟩ (by decide) 3 (by decide);have R:=iB j;have U:Hid (ik w w1):=(jS (w1:=w.alloc (.map #[] 0)) inferInstance J (js _));go_in;go_wp2;go_ret;exact⟨_,rfl,World.ownsMap.mono R iI,js _,U⟩
theorem Mv (n:Int) (hn:n=3) (w:World):Calls prog 171 #[n] w fun e w'=>∃b,e=.returned (.map (some b))/\sE w' b 6 (Bq [(⟨#[61]⟩,11),(⟨#[60,62]⟩,12),(⟨#[60]⟩,13),(⟨#[60,61]⟩,14),(⟨#[62]⟩,15),(⟨#[62,61]⟩,16)])/\w.heap.size<=b/\ik w w':=by
 have a1:=@run_makeMap prog;have o0:sE (w.alloc (.map #[] 0)) w.heap.size 0 (.map []):=World.ownsMap_made w prog 9 _;subst hn;obtain⟨w1,r1,o1,g1⟩:=o0.put (by decide) ⟨#[61]⟩ (by decide) 11 (by decide);obtain⟨w2,r2,U,g2⟩:=o1.put (by decide) ⟨#[60,62]⟩ (by decide) 12 (by decide);obtain⟨w3,r3,R,g3⟩:=U.put (by decide) ⟨#[60]⟩ (by decide) 13 (by decide);obtain⟨w4,r4,J,g4⟩:=R.put (by decide) ⟨#[60,61]⟩ (by decide) 14 (by decide);obtain⟨w5,r5,I,g5⟩:=J.put (by decide) ⟨#[62]⟩ (by decide) 15 (by decide);obtain⟨j,r6,o,g6⟩:=I.put (by decide) ⟨#[62,61]⟩ (by decide) 16 (by decide);have HO:=iB o;have HA:Hid (ik w j):=(jS (jS (jS (jS (jS (jS (w1:=w.alloc (.map #[] 0)) inferInstance g1 (js _)) g2 (js _)) g3 (js _)) g4 (js _)) g5 (js _)) g6 (js _));go_in;go_wp2;go_ret;exact⟨_,rfl,World.ownsMap.mono HO iI,js _,HA⟩
theorem NV (n:Int) (hn:n=4) (w:World):Calls prog 171 #[n] w fun e w'=>∃b,e=.returned (.map (some b))/\sE w' b 6 (Bq [(⟨#[43]⟩,6),(⟨#[45]⟩,7)])/\w.heap.size<=b/\ik w w':=by
 have R:=@run_makeMap prog;have J:sE (w.alloc (.map #[] 0)) w.heap.size 0 (.map []):=World.ownsMap_made w prog 9 _;subst hn;obtain⟨w1,r1,I,g1⟩:=J.put (by decide) ⟨#[43]⟩ (by decide) 6 (by decide);obtain⟨j,r2,o,U⟩:=I.put (by decide) ⟨#[45]⟩ (by decide) 7 (by decide);have HO:=iB o;have HA:Hid (ik w j):=(jS (jS (w1:=w.alloc (.map #[] 0)) inferInstance g1 (js _)) U (js _));go_in;go_wp2;go_ret;exact⟨_,rfl,World.ownsMap.mono HO iI,js _,HA⟩
theorem Mh (n:Int) (h0:¬n=0) (h1:¬n=1) (h3:¬n=3) (h4:¬n=4) (w:World):Calls prog 171 #[n] w fun e w'=>∃b,e=.returned (.map (some b))/\sE w' b 6 (Bq [(⟨#[42]⟩,8),(⟨#[47]⟩,9),(⟨#[109,111,100]⟩,10)])/\w.heap.size<=b/\ik w w':=by
 have U:=@run_makeMap prog;have R:sE (w.alloc (.map #[] 0)) w.heap.size 0 (.map []):=World.ownsMap_made w prog 9 _;have k0:(n==0)=false:=by rw[beq_eq_false_iff_ne];exact h0
 have k1:(n==1)=false:=by rw[beq_eq_false_iff_ne];exact h1
 have k3:(n==3)=false:=by rw[beq_eq_false_iff_ne];exact h3
 have k4:(n==4)=false:=by rw[beq_eq_false_iff_ne];exact h4
 obtain⟨w1,r1,J,g1⟩:=R.put (by decide) ⟨#[42]⟩ (by decide) 8 (by decide);obtain⟨w2,r2,I,g2⟩:=J.put (by decide) ⟨#[47]⟩ (by decide) 9 (by decide);obtain⟨j,r3,o,g3⟩:=I.put (by decide) ⟨#[109,111,100]⟩ (by decide) 10 (by decide);have HO:=iB o;have HA:Hid (ik w j):=(jS (jS (jS (w1:=w.alloc (.map #[] 0)) inferInstance g1 (js _)) g2 (js _)) g3 (js _));go_in;go_wp2;go_ret;exact⟨_,rfl,World.ownsMap.mono HO iI,js _,HA⟩
theorem IH (n:Int) (w:World):Calls prog 171 #[n] w fun e w'=>∃b,e=.returned (.map (some b))/\sE w' b 6 (Bq (B9 n))/\w.heap.size<=b/\ik w w':=by
 unfold B9;by_cases j:n=0
 ·rw[iG j];exact M9 n j w
 by_cases o:n=1
 ·rw[iV j,iG o];exact Nf n o w
 by_cases I:n=3
 ·rw[iV j,iV o,iG I];exact Mv n I w
 by_cases J:n=4
 ·rw[iV j,iV o,iV I,iG J];exact NV n J w
 rw[iV j,iV o,iV I,iV J];exact Mh n j o I J w
abbrev kf:=@pk.none
abbrev lN:=@pk.some
abbrev ko:=@uD.Qn
end Go.Proofs.YtnigblndonocfaaGreatDoor
