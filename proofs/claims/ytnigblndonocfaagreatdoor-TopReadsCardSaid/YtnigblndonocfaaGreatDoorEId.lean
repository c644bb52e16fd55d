/- A part of the proof. -/
import Derived.Test.YtnigblndonocfaaGreatDoorSVal
import Derived.Test.YtnigblndonocfaaGreatDoorShelf
import Derived.Lib.SmallJoins
import Derived.Lib.RabinKarpLaws
set_option linter.unusedVariables false
set_option linter.unusedSimpArgs false
namespace Go.Proofs.YtnigblndonocfaaGreatDoor
set_option maxRecDepth 100000
set_option maxHeartbeats 3200000
open Go.Proofs.Tryz
open Go.RowKit Go.BigFrame
section
def lG (l:List UInt8):ByteArray:=⟨l.toArray⟩
theorem Cd (l:List UInt8):(lG l).data.toList=l:=rfl
theorem qd (s:ByteArray):lG s.data.toList=s:=by cases s;rfl
theorem yK (l:List UInt8):(lG l).size=l.length:=by show l.toArray.size=_;simp
theorem Pw (a b:List UInt8):lG a++lG b=lG (a++b):=by
 apply nQ ByteArray.mk (a₁:=(lG a++lG b).data) (a₂:=(a++b).toArray);rw[ByteArray.data_append];simp[lG]
theorem Nj (w:World) (k:Nat) (os:Array Obj):Below w.heap.size w (Go.Sort.grow (w.drewN k) os):=
 ⟨rfl,rfl,rfl,by show w.heap.size<=(w.heap++os).size;rw[Array.size_append];omega,fun j hj=>by show (w.heap++os)[j]?=_;rw[Array.getElem?_append_left hj]⟩
def Rz (el:List iW) (t:Int):ByteArray:=if t=1 then⟨#[98,111,111,108]⟩ else if t=2 then⟨#[105,110,116]⟩ else match el[(t-3).toNat]? with | some u=>u.name | none=>⟨#[]⟩
def PQ (el:List iW) (t v:Int):List UInt8:=if t=1 then Lib.formatBool (v==1) else if t=2 then Lib.itoa v else match el[(t-3).toNat]? with | some u=>(u.tags.l.getD v.toNat ⟨#[]⟩).data.toList | none=>[]
def qS (el:List iW) (t:Int):Prop:=t=1\/t=2\/(3<=t/\t<3+(el.length:Int))
structure ID (w:World) (eA:Option Addr) (ec:Nat) (el:List iW):Prop where
 ens:ir 2 sM w ⟨eA,ec,el⟩
 tab:Lib.TabIs prog w "internal/strconv.uint64pow10" .u64 Lib.pow10Tab
theorem QR:prog.globalNamed "internal/strconv.uint64pow10"=some 1:=by kernel_rfl
theorem ID.here {w:World} {eA:Option Addr} {ec:Nat} {el:List iW} (h:ID w eA ec el) (U:World) (hU:ik w U):ID U eA ec el:=
 ⟨h.ens.below lU hU.below,Go.Joins.tab_stays QR h.tab hU.below (js _)⟩
section
variable {w0:World} {eA:Option Addr} {ec:Nat} {el:List iW}
theorem Nw (h:ir 2 sM w0 ⟨eA,ec,el⟩) (w:World) (hw:ik w0 w) (t:Int) {u:iW} (h3:3<=t) (hu:el[(t-3).toNat]?=some u) :
  Calls prog 131 #[.slice eA el.length ec,t] w fun e w'=>e=.returned (.tuple #[.agg #[.string u.name,.slice u.tags.A u.tags.l.length u.tags.c],.bool true])/\∃y,w'=w.more y:=by
 have j:=(rq.1 hu).1;have hl:=h.len;simp only[]at hl;have z:=iy (jC w 57 #[.string ⟨#[]⟩,.slice none 0 0]);obtain⟨n,hn⟩:∃n:Nat,t-3=n:=⟨(t-3).toNat,iu⟩;rw[hn,Int.toNat_natCast]at hu j;obtain⟨b,p,y,rfl,a6,HY,hP⟩:=(h.below lU hw.below).part (i:=n) j;obtain rfl:y=u:=sI (HY.symm.trans hu);have e0:=hP.c0;have e1:=hP.c1;have a8:¬((el.length:Int)<=(n:Int)):=iu;have a7:(n:Int)<(el.length:Int):=iu;have a1:¬(t<3):=iu;obtain⟨U,o⟩:=jt (y.name);obtain⟨A9,R⟩:=jt (y.tags.A);obtain⟨n9,I⟩:=jt (y.tags.l.length);obtain⟨c9,J⟩:=jt (y.tags.c);have r2:=(z.jx 0 (.string y.name)).jx 1 (.slice y.tags.A y.tags.l.length y.tags.c);rw[o]at e0 r2;rw[R,I,J]at e1 r2;rw[o,R,I,J];have k0:(((w.alloc (.cells #[.string ⟨#[]⟩,.slice none 0 0] 57)).setCell ⟨w.heap.size,0,none⟩ (.string U)).setCell ⟨w.heap.size,1,none⟩ (.slice A9 n9 c9)).cell? ⟨w.heap.size,0,none⟩=some (.string U):=by rw[r2.cell];rfl
 have k1:(((w.alloc (.cells #[.string ⟨#[]⟩,.slice none 0 0] 57)).setCell ⟨w.heap.size,0,none⟩ (.string U)).setCell ⟨w.heap.size,1,none⟩ (.slice A9 n9 c9)).cell? ⟨w.heap.size,1,none⟩=some (.slice A9 n9 c9):=by rw[r2.cell];rfl
 go_in;go_wp2_with fail;refine jR (v:=.tuple #[.agg #[U,.slice A9 n9 c9],.bool true]) (by simp[results,results131,go_sem,k0,k1]) rfl ?_;exact⟨rfl,jP _ _⟩
theorem If (h:ir 2 sM w0 ⟨eA,ec,el⟩) (w:World) (hw:ik w0 w) (t:Int) (ht:qS el t) :
  Calls prog 85 #[.slice eA el.length ec,t] w fun e w'=>e=.returned (.tuple #[.string (Rz el t),.bool true])/\∃y,w'=w.more y:=by
 by_cases U:t=1
 ·subst U
  go_in;go_wp2;exact jR (v:=.tuple #[.string ⟨#[98,111,111,108]⟩,.bool true]) (by simp[results,results85,go_sem]) rfl ⟨rfl,jP _ _⟩
 by_cases R:t=2
 ·subst R
  go_in;go_wp2;exact jR (v:=.tuple #[.string ⟨#[105,110,116]⟩,.bool true]) (by simp[results,results85,go_sem]) rfl ⟨rfl,jP _ _⟩
 have h3:3<=t/\t<3+(el.length:Int):=by
  rcases ht with h | h | h
  ·exact absurd h U
  ·exact absurd h R
  exact h
 obtain⟨u,hu⟩:∃u,el[(t-3).toNat]?=some u:=⟨_,qn iu⟩;have hx:Rz el t=u.name:=by unfold Rz;rw[iV U,iV R,hu]
 rw[hx];have HC:=iy (Nw h w hw t h3.1 hu);obtain⟨s9,j⟩:=jt (u.name);obtain⟨A9,J⟩:=jt (u.tags.A);obtain⟨n9,o⟩:=jt (u.tags.l.length);obtain⟨c9,I⟩:=jt (u.tags.c);rw[j,J,o,I]at HC;rw[j];go_in;go_wp2_with fail;refine HC.mono ?_;rintro e w' ⟨rfl,y,rfl⟩;go_wp2;exact jR (v:=.tuple #[s9,.bool true]) (by simp[results,results85,go_sem]) rfl ⟨rfl,jP _ _⟩
theorem LA (h:ir 2 sM w0 ⟨eA,ec,el⟩) (w:World) (hw:ik w0 w) (t:Int) (ht:qS el t) :
  Calls prog 163 #[.slice eA el.length ec,t] w fun e w'=>e=.returned (.bool true)/\∃y,w'=w.more y:=by
 have j:=iy (If h w hw t ht);generalize Rz el t=s at j;go_in;go_wp2_with fail;refine j.mono ?_;rintro e w' ⟨rfl,y,rfl⟩;go_wp2;go_ret;exact⟨rfl,jP _ _⟩
theorem qS.le {t:Int} (h:qS el t) (hl:el.length<=140737488355328):t<=9223372036854775807:=by
 rcases h with h | h | h<;>omega
theorem Mw (h:ID w0 eA ec el) (w:World) (hw:ik w0 w) (t v:Int) (ht:qS el t) (hv:nq el t v=true) :
  Calls prog 132 #[.slice eA el.length ec,t,v] w fun e w'=>e=.returned (.tuple #[.string (lG (PQ el t v)),.int .i64 0])/\∃y,w'=w.more y:=by
 have hl:=h.ens.len;simp only[]at hl;have HA:=iy (LA h.ens w hw t ht);have HB:=iy (fun U (R:ik w U)=>(Ch h.ens U (ij hw R) t v (ht.le hl)).mono fun e w' (q:_/\_)=>(⟨q.1,(Below.uu q.2.below)⟩:_/\∃z,w'=U.more z));rw[hv]at HB;by_cases h1:t=1
 ·subst h1
  have HF:=iy (fun z U=>strconv_FormatBool z U);have o:lG (PQ el 1 v)=⟨(Lib.formatBool (v==1)).toArray⟩:=by unfold PQ;rw[iG rfl];rfl
  rw[o];go_in;go_wp2_with fail;refine HA.mono ?_;rintro e w' ⟨rfl,y,rfl⟩;go_wp2_with fail;refine (HB _ iR).mono ?_;rintro e w' ⟨rfl,y2,rfl⟩;go_wp2_with fail;refine (HF _ _).mono ?_;rintro e w' ⟨rfl,rfl⟩;go_wp2;exact jR (v:=.tuple #[.string ⟨(Lib.formatBool (v==1)).toArray⟩,.int .i64 0]) (by simp[results,results132,go_sem]) rfl ⟨rfl,jP _ _⟩
 by_cases h2:t=2
 ·subst h2
  have o:lG (PQ el 2 v)=⟨(Lib.itoa v).toArray⟩:=by unfold PQ;rw[iV iI,iG rfl];rfl
  have hb:-9223372036854775808<=v/\v<=9223372036854775807:=by
   unfold nq at hv;rw[iG rfl]at hv;simp only[mT,decide_eq_true_eq]at hv;omega
  have HF:=iy (fun U (R:ik w U)=>strconv_Itoa v hb.1 hb.2 U (h.here U (ij hw R)).tab);rw[o];go_in;go_wp2_with fail;refine HA.mono ?_;rintro e w' ⟨rfl,y,rfl⟩;go_wp2_with fail;refine (HB _ iR).mono ?_;rintro e w' ⟨rfl,y2,rfl⟩;go_wp2_with fail;refine (HF _ iR).mono ?_;rintro e w' ⟨rfl,k,os,rfl⟩;go_wp2_with fail;refine jR (v:=.tuple #[.string ⟨(Lib.itoa v).toArray⟩,.int .i64 0]) (by simp[results,results132,go_sem]) rfl ⟨rfl,?_⟩;exact Below.uu ((Cu (w:=w.more y) (h:=Cu y) y2).below.trans ((Nj _ k os).mono (ik.size _ _)))
 have h3:3<=t/\t<3+(el.length:Int):=by
  rcases ht with h | h | h
  ·exact absurd h h1
  ·exact absurd h h2
  exact h
 have HE:=iy (fun U (R:ik w U)=>h.ens.below lU (ij hw R).below);obtain⟨m,hm⟩:∃m:Nat,t-3=m:=⟨(t-3).toNat,iu⟩;have J:m<el.length:=iu;have a1:IntKind.i64.wrap (t-3)=t-3:=IntWalk.i64_in _ (by omega);rw[hm]at a1;have j:=hv;unfold nq at j;rw[iV h2]at j;simp only[mT,decide_eq_true_eq]at j;obtain⟨u,hu⟩:∃u,el[m]?=some u:=⟨_,qn J⟩;have a8:jV el t=u.tags.l.length:=by
  unfold jV;rw[iV h1,iV h2,iG h3.1,hm,Int.toNat_natCast,hu]
 rw[a8]at j;have o:lG (PQ el t v)=u.tags.l.getD v.toNat ⟨#[]⟩:=by
  unfold PQ;rw[iV h1,iV h2,hm,Int.toNat_natCast,hu];exact qd _
 obtain⟨vn,a6⟩:∃vn:Nat,v=vn:=⟨v.toNat,iu⟩;subst a6;rw[Int.toNat_natCast]at o;generalize a_:u.tags.l.getD vn ⟨#[]⟩=s8 at o;rw[o];have al:¬((el.length:Int)<=(m:Int)):=iu;have ak:(m:Int)<(el.length:Int):=iu;have aj:¬((m:Int)<0):=iu;go_in;go_wp2_with fail;refine HA.mono ?_;rintro e w' ⟨rfl,y,rfl⟩;go_wp2_with fail;refine (HB _ iR).mono ?_;rintro e w' ⟨rfl,y2,rfl⟩;obtain⟨b,p,z,rfl,ag,HY,hP⟩:=(HE ((w.more y).more y2) iR).part (i:=m) J;obtain rfl:z=u:=sI (HY.symm.trans hu);have I:vn<z.tags.l.length:=iu;have a7:=hP.tg.len;have e1:=hP.c1;obtain⟨b8,p8,y8,ad,af,ae,ab⟩:=hP.tg.part (i:=vn) I;obtain rfl:y8=s8:=by rw[<- a_,wC,ae.out];rfl
 have e2:=ab.1;rw[yr]at e2;rw[ad]at e1;obtain⟨n9,a'⟩:=jt (z.tags.l.length);obtain⟨c9,aa⟩:=jt (z.tags.c);rw[a']at e1 I j a7;rw[aa]at e1;have ai:¬((n9:Int)<=(vn:Int)):=iu;have ah:(vn:Int)<(n9:Int):=iu;go_wp2;exact jR (v:=.tuple #[y8,.int .i64 0]) (by simp[results,results132,go_sem]) rfl ⟨rfl,jP _ _⟩
end
end
section
def iz (q:Nat) (w:World):World:={ w with heap:=w.heap.setIfInBounds q (.cells #[] 0 (0,0)) }
section
variable {q:Nat} {w w' B:World}
theorem iZ (q:Nat) (w:World):(iz q w).heap.size=w.heap.size:=by simp[iz]
theorem km (w:World) {b:Nat} (h:b≠q):(iz q w).heap[b]?=w.heap[b]?:=by
 unfold iz;simp only[KY];rw[iV (ls h)]
theorem tN (w:World) (h:q<w.heap.size):(iz q w).heap[q]?=some (.cells #[] 0 (0,0)):=by
 unfold iz;simp[KY,h]
theorem jJ (w:World) (i:Nat) (v:Value):iz q (w.setCell ⟨q,i,none⟩ v)=iz q w:=by
 have e:(w.setCell ⟨q,i,none⟩ v).heap.setIfInBounds q (.cells #[] 0 (0,0))=w.heap.setIfInBounds q (.cells #[] 0 (0,0)):=by
  apply Array.ext_getElem?;intro j;simp only[World.setCell,KY,Array.getElem?_modify,Array.size_modify];by_cases o:q=j
  ·simp[o]
  simp[o]
 show ({ w.setCell ⟨q,i,none⟩ v with heap:=(w.setCell ⟨q,i,none⟩ v).heap.setIfInBounds q (.cells #[] 0 (0,0)) }:World)={ w with heap:=w.heap.setIfInBounds q (.cells #[] 0 (0,0)) }
 rw[e];rfl
theorem EN (w:World) {b:Nat} (h:b≠q) (i:Nat) (v:Value):iz q (w.setCell ⟨b,i,none⟩ v)=(iz q w).setCell ⟨b,i,none⟩ v:=by
 have e:(w.setCell ⟨b,i,none⟩ v).heap.setIfInBounds q (.cells #[] 0 (0,0))=((iz q w).setCell ⟨b,i,none⟩ v).heap:=by
  apply Array.ext_getElem?;intro j;simp only[iz,World.setCell,KY,Array.getElem?_modify,Array.size_modify,Array.size_setIfInBounds];by_cases o:q=j
  ·have I:b≠j:=fun e=>h (e.trans o.symm)
   simp[o,I]
  simp[o]
 show ({ w.setCell ⟨b,i,none⟩ v with heap:=(w.setCell ⟨b,i,none⟩ v).heap.setIfInBounds q (.cells #[] 0 (0,0)) }:World)={ (iz q w).setCell ⟨b,i,none⟩ v with heap:=((iz q w).setCell ⟨b,i,none⟩ v).heap }
 rw[e];rfl
theorem tf (w:World) (h:q<w.heap.size) (o:Obj):iz q (w.alloc o)=(iz q w).alloc o:=by
 have e:(w.alloc o).heap.setIfInBounds q (.cells #[] 0 (0,0))=((iz q w).alloc o).heap:=by
  apply Array.ext_getElem?;intro j;simp only[iz,World.alloc,KY,Array.getElem?_push,Array.size_push,Array.size_setIfInBounds];by_cases I:q=j
  ·subst I
   simp[h,Nat.ne_of_lt h,Nat.lt_succ_of_lt h]
  simp[I]
 show ({ w.alloc o with heap:=(w.alloc o).heap.setIfInBounds q (.cells #[] 0 (0,0)) }:World)={ (iz q w).alloc o with heap:=((iz q w).alloc o).heap }
 rw[e];rfl
theorem Mr (w:World):iz q w.drew=(iz q w).drew:=rfl
theorem Li (w:World) (n:Nat):iz q (w.drewN n)=(iz q w).drewN n:=rfl
theorem im (h:ik w w'):ik (iz q w) (iz q w'):=by
 refine⟨⟨h.below.os,h.below.tape,h.below.output,by rw[iZ,iZ];exact h.below.size,fun b j=>?_⟩⟩;rw[iZ]at j;by_cases o:b=q
 ·subst o
  rw[tN w j,tN w' (rO j h.below.size)]
 rw[km w o,km w' o];exact h.below.block b j
instance RF [h:ik B (iz q w)] [l:Le (q+1) w] (o:Obj):ik B (iz q (w.alloc o)):=by rw[tf w l.le];exact iR
instance SB [h:ik B (iz q w)]:ik B (iz q w.drew):=by rw[Mr];exact iR
instance RE [h:ik B (iz q w)] (n:Nat):ik B (iz q (w.drewN n)):=by rw[Li];exact iR
instance SJ [h:ik B (iz q w)] (i:Nat) (v:Value):ik B (iz q (w.setCell ⟨q,i,none⟩ v)):=by rw[jJ];exact h
instance iJ {b:Nat} [h:ik B (iz q w)] [k:uD B b] (i:Nat) (v:Value):ik B (iz q (w.setCell ⟨b,i,none⟩ v)):=by
 by_cases e:b=q
 ·subst e;rw[jJ];exact h
 rw[EN w e];exact pQ (k:=k) i v
instance SC [h:ik B (iz q w)] (y:World):ik B (iz q (w.more y)):=⟨h.below.trans ((im (q:=q) (w:=w) (w':=w.more y) iR).below.mono h.below.size)⟩
theorem tD (h:ik B (iz q w)) (k:ik w w'):ik B (iz q w'):=ij h (im k)
theorem Po (h:ik B (iz q w)):B.heap.size<=w.heap.size:=by rw[<- iZ q w];exact h.below.size
structure CU (W w:World):Prop where
 size:W.heap.size<=w.heap.size
 cell:∀(b o:Nat) (v:Value),W.cell? ⟨b,o,none⟩=some v->w.cell? ⟨b,o,none⟩=some v
theorem yI (q:Nat) (w:World):CU (iz q w) w:=by
 refine⟨lI (iZ q w),fun b o v h=>?_⟩;by_cases e:b=q
 ·subst e
  have j:b<w.heap.size:=by
   have:=World.block_lt_of_cell? (iz b w) ⟨b,o,none⟩ h;rwa [iZ]at this
  rw[cell_of_row (iz b w) b o #[] 0 (0,0) (tN w j)]at h;simp at h
 rwa [Dj (w:=iz q w) (w':=w) (a:=⟨b,o,none⟩) (km w e).symm]
theorem iP.Og {b:Nat} {t:TypeId} {cs:Array Value} (h:iP (iz q w) b t cs) (hc:b≠q):iP w b t cs:=(km w hc).symm.trans h
theorem iP.mask {b:Nat} {t:TypeId} {cs:Array Value} (h:iP w b t cs) (hb:b≠q):iP (iz q w) b t cs:=(km w hb).trans h
theorem tM {base size n:Nat} {e:TypeId} {v:Value} {xs:List Value} (h:(iz q w).ownsRow base e size v n xs) (hq:q<base):w.ownsRow base e size v n xs:=by
 refine⟨h.1,?_⟩;rcases h.2 with j | ⟨g,cap,cur,hv,hb,hgg,rest⟩
 ·exact .inl j
 refine .inr ⟨g,cap,cur,hv,hb,?_,rest⟩;rwa [km w iu]at hgg
theorem sG {base size n:Nat} {e:TypeId} {v:Value} {xs:List Value} (h:w.ownsRow base e size v n xs) (hq:q<base):(iz q w).ownsRow base e size v n xs:=by
 refine⟨h.1,?_⟩;rcases h.2 with j | ⟨g,cap,cur,hv,hb,hgg,rest⟩
 ·exact .inl j
 refine .inr ⟨g,cap,cur,hv,hb,?_,rest⟩;rwa [km w iu]
end
def Ai {α:Type} (P:World->Nat->Nat->α->Prop):Prop:=∀(W w:World) (b o:Nat) (y:α),CU W w->P W b o y->P w b o y
section
variable {W w:World} {S:Prop}
theorem ir.sub {α:Type} {sz:Nat} {P:World->Nat->Nat->α->Prop} (hP:Ai P) {x:nB α} (h:ir sz P W x) (k:CU W w):ir sz P w x:=by
 refine⟨?_,h.le,h.cap,h.len⟩;rcases h.cells with e | ⟨b,p,e,hlt,hc⟩
 ·exact .inl e
 exact .inr ⟨b,p,e,rO hlt k.size,fun i y j=>hP _ _ _ _ _ k (hc i y j)⟩
theorem Kf.sub {b o:Nat} {e:Tx} (h:Kf W b o e) (k:CU W w):Kf w b o e:=
 ⟨k.cell _ _ _ h.c0,k.cell _ _ _ h.c1,k.cell _ _ _ h.c2,k.cell _ _ _ h.c3,k.cell _ _ _ h.c4,k.cell _ _ _ h.c5⟩
mutual
theorem RX.sub (k:CU W w):∀{e:Tx},RX W e->RX w e
 |.mk _ _ _ _ s A c xs,h=>by
  rw[RX]at h⊢;obtain⟨h1,h2,h3,h4,h5⟩:=h;refine⟨h1,h2,h3,h4,?_⟩;rcases h5 with h5 | ⟨b,o,h5,h6,h7⟩
  ·exact .inl h5
  exact .inr ⟨b,o,h5,rO h6 k.size,xX.sub k h7⟩
theorem xX.sub (k:CU W w) {b:Nat}:∀{o:Nat} {es:List Tx},xX W b o es->xX w b o es
 |_,[],_=>by rw[xX];trivial
 |o,e::es,h=>by
  rw[xX]at h⊢;exact⟨h.1.sub k,RX.sub k h.2.1,xX.sub k h.2.2⟩
end
theorem sj:Ai sR:=fun W w b o y k h=>⟨k.cell _ _ _ h.1,h.2⟩
theorem xb:Ai KJ:=fun W w b o y k h=>⟨h.tb,k.cell _ _ _ h.c0,k.cell _ _ _ h.c1,k.cell _ _ _ h.c2,h.nm⟩
theorem ky:Ai jG:=fun W w b o y k h=>⟨h.tb,k.cell _ _ _ h.c0,k.cell _ _ _ h.c1,k.cell _ _ _ h.c2,h.nm,h.cl.sub xb k⟩
theorem rH:Ai sM:=fun W w b o y k h=>⟨k.cell _ _ _ h.c0,k.cell _ _ _ h.c1,h.nm,h.tg.sub sj k⟩
theorem uU:Ai (xv S):=fun W w b o y k h=>⟨h.tb,h.sz,k.cell _ _ _ h.c0,h.six.sub k,h.lf.sub sj k,h.ri.sub k⟩
theorem Gu:Ai (Eo S):=fun W w b o y k h=>⟨h.tb,h.sz,h.six.sub k,k.cell _ _ _ h.c6,k.cell _ _ _ h.c7,h.co.sub k⟩
theorem yO:Ai (Bu S):=fun W w b o y k h=>⟨h.tb,h.sz,h.six.sub k,h.rx.sub k⟩
theorem Bp.sub {b o:Nat} {x:StT} (h:Bp W b o x) (k:CU W w):Bp w b o x:=
 ⟨k.cell _ _ _ h.c0,k.cell _ _ _ h.c1,k.cell _ _ _ h.c2,k.cell _ _ _ h.c3,k.cell _ _ _ h.c4,k.cell _ _ _ h.c5⟩
mutual
theorem tY.sub (k:CU W w):∀(x:StT),tY S W x->tY S w x
 |.mk n l e A c a u v,h=>by
  rw[tY]at h⊢;obtain⟨h1,h2,h3,h4,h5,h6,h7,h8,h9⟩:=h;refine⟨h1,h2.sub ky k,h3.sub uU k,h4.sub Gu k,h5.sub Gu k,h6,h7,h8,?_⟩;rcases h9 with h9 | ⟨b,p,e1,hlt,h9⟩
  ·exact .inl h9
  exact .inr ⟨b,p,e1,rO hlt k.size,sa.sub k p a h9⟩
theorem sd.sub (k:CU W w) {b:Nat}:∀(o:Nat) (l:List StT),sd S W b o l->sd S w b o l
 |_,[],_=>by rw[sd];trivial
 |o,x::l,h=>by
  rw[sd]at h⊢;exact⟨h.1.sub k,tY.sub k x h.2.1,sd.sub k (o+6) l h.2.2⟩
theorem zS.sub (k:CU W w):∀(x:AuT),zS S W x->zS S w x
 |.mk A c l,h=>by
  rw[zS]at h⊢;obtain⟨h1,h2,h3,h4⟩:=h;refine⟨h1,h2,h3,?_⟩;rcases h4 with h4 | ⟨b,p,e1,hlt,h4⟩
  ·exact .inl h4
  exact .inr ⟨b,p,e1,rO hlt k.size,sd.sub k p l h4⟩
theorem sa.sub (k:CU W w) {b:Nat}:∀(o:Nat) (l:List AuT),sa S W b o l->sa S w b o l
 |_,[],_=>by rw[sa];trivial
 |o,x::l,h=>by
  rw[sa]at h⊢;exact⟨k.cell _ _ _ h.1,zS.sub k x h.2.1,sa.sub k (o+1) l h.2.2⟩
end
theorem wY:Ai (xM S):=fun W w b o y k h=>⟨k.cell _ _ _ h.1,zS.sub k y h.2⟩
theorem Hs:Ai (Gy S):=fun W w b o y k h=>
 ⟨k.cell _ _ _ h.c0,k.cell _ _ _ h.c1,k.cell _ _ _ h.c2,k.cell _ _ _ h.c3,k.cell _ _ _ h.c4,k.cell _ _ _ h.c5,k.cell _ _ _ h.c6,k.cell _ _ _ h.c7,h.nm,
  h.r1.sub ky k,h.r2.sub ky k,h.r3.sub ky k,h.r4.sub uU k,h.r5.sub wY k,h.r6.sub yO k,h.r7.sub yO k⟩
theorem FJ.sub {x:Il} (h:FJ S W x) (k:CU W w):FJ S w x:=⟨h.enums.sub rH k,h.nodes.sub Hs k⟩
end
end
def uC (h l:List Bool):Int:=(W.check h l:Nat)
def DS (h l:List Bool):Prop:=0<l.length/\h.length+l.length<=64
theorem Iu {h l:List Bool} (hl:l.length=0):uC h l=5:=by simp[uC,W.check,hl]
theorem Hc {h l:List Bool} (hl:0<l.length) (h3:64<h.length+l.length):uC h l=3:=by
 unfold uC W.check;rw[iV iu,iG h3];rfl
theorem Hl {h l:List Bool} (hv:DS h l):uC h l=0:=by
 unfold uC W.check;rw[iV (by have:=hv.1;omega),iV (by have:=hv.2;omega)];rfl
theorem GR (h l:List Bool):DS h l\/(¬DS h l/\(uC h l=5\/uC h l=3)):=by
 by_cases I:l.length=0
 ·exact .inr ⟨fun j=>by have:=j.1;omega,.inl (Iu I)⟩
 by_cases o:64<h.length+l.length
 ·exact .inr ⟨fun j=>by have:=j.2;omega,.inr (Hc iu o)⟩
 exact .inl ⟨iu,iu⟩
theorem K7 {w0:World} {A B c d h l} (x:RW w0 A c B d h l) (w:World) [ik w0 w] :
  Calls prog 186 #[.agg #[.slice A h.length c,.slice B l.length d]] w fun e w'=>e=.returned (.int .i64 (uC h l))/\∃y,w'=w.more y:=by
 replace x:=x.here w;obtain⟨I,o⟩:=x.lens;go_in;go_wp2;all_goals
  go_ret;refine⟨Ky ?_,jP _ _⟩
 ·exact (Iu (by simpa using ‹((l.length:Int)==0)=true›)).symm
 ·have j:¬((l.length:Int)=0):=by simpa using ‹((l.length:Int)==0)=false›
  exact (Hc iu iu).symm
 have j:¬((l.length:Int)=0):=by simpa using ‹((l.length:Int)==0)=false›
 exact (Hl ⟨by omega,by omega⟩).symm
theorem Dz {w0:World} {A B c d h l} (x:RW w0 A c B d h l) (w:World) [ik w0 w] {v:Int} (hv:uC h l=v) :
  Calls prog 186 #[.agg #[.slice A h.length c,.slice B l.length d]] w fun e w'=>e=.returned (.int .i64 v)/\∃y,w'=w.more y:=by
 rw[<- hv];exact K7 x w
def BM (B:Nat) (A:Option Addr):Prop:=∀ad,A=some ad->B<=ad.block
theorem BM.so {w:World} {B:Nat} {e:TypeId} {size n m c:Nat} {A:Option Addr} {xs:List Value} (h:w.ownsRow B e size (.slice A m c) n xs):BM B A:=by
 rintro j rfl;exact (h.lt j.block rfl).1
theorem BM.mono {B C:Nat} {A:Option Addr} (h:BM B A) (hc:C<=B):BM C A:=fun ad e=>jW hc (h ad e)
theorem RB.jx {w:World} {A c l} (x:RB w A c l) {B b:Nat} (h:BM B A) (hb:b<B) (i:Nat) (v:Value):RB (w.setCell ⟨b,i,none⟩ v) A c l:=by
 refine⟨⟨x.reads.1,fun U=>?_⟩,x.le,x.cap,x.len⟩;obtain⟨J,e,o,hc⟩:=x.reads.2 U;refine⟨J,e,by rw[jc];exact o,fun j u R=>(World.cell?_setCell_other w _ _ v fun e2=>?_).trans (hc j u R)⟩;have I:=nQ Addr.block e2;rw[rD]at I;have h2:=h J e;have h3:b=J.block:=by first | exact I | exact I.symm
 omega
theorem Io:(prog.info? 4).map (fun i=>(i.zero,i.size,i.bytes))=some (some (.bool false),1,1):=by kernel_rfl
theorem RB.Tq (w:World):RB w none 0 []:=⟨oZ.none_,js _,iu,by simp⟩
def n_ (l:List Bool):List UInt8:=l.map fun b=>if b then 49 else 48
def GD (h l:List Bool):List UInt8:=n_ h++[40]++n_ l++[41]
def xd (c:UInt8):Bool:=c==48||c==49
def rB (l:List UInt8):Bool:=l.all xd
def pY (l:List UInt8):List Bool:=l.map (·==49)
theorem zM (l:List UInt8):(pY l).length=l.length:=by simp[pY]
theorem I0 (c:UInt8):(c=48/\((c.toNat:Int)==48)=true/\((c.toNat:Int) != 48)=false/\((c.toNat:Int)==49)=false/\((c.toNat:Int) != 49)=true) \/
  (c=49/\((c.toNat:Int)==48)=false/\((c.toNat:Int) != 48)=true/\((c.toNat:Int)==49)=true/\((c.toNat:Int) != 49)=false) \/
  (xd c=false/\((c.toNat:Int)==48)=false/\((c.toNat:Int) != 48)=true/\((c.toNat:Int)==49)=false/\((c.toNat:Int) != 49)=true):=by
 by_cases o:c=48
 ·subst o;exact .inl ⟨rfl,iI,iI,iI,iI⟩
 by_cases j:c=49
 ·subst j;exact .inr (.inl ⟨rfl,iI,iI,iI,iI⟩)
 have a:c.toNat≠48:=fun e=>o (UInt8.toNat_inj.1 e)
 have b:c.toNat≠49:=fun e=>j (UInt8.toNat_inj.1 e)
 refine .inr (.inr ⟨by simp[xd,o,j],?_,?_,?_,?_⟩)<;>simp<;>omega
theorem Ig {s:ByteArray} {l:List UInt8} (h:s.data.toList=l):s=⟨l.toArray⟩:=by
 obtain⟨⟨x⟩⟩:=s;subst h;rfl
theorem ow {s:ByteArray} {l:List UInt8} (h:s.data.toList=l):s.size=l.length:=by
 obtain⟨⟨x⟩⟩:=s;subst h;rfl
theorem zy {s:ByteArray} {k:Nat} (h:k<s.size):s.data.toList[k]?=some s[k]:=by
 obtain⟨⟨x⟩⟩:=s;simp[ByteArray.size]at h;rw[qn (by simpa using h)];rfl
theorem Bi {l:List UInt8} {k:Nat} {c:UInt8} (h:l[k]?=some c):bv (pY (l.take (k+1)))=bv (pY (l.take k))++[.bool (c==49)]:=by
 obtain⟨j,e⟩:=rq.1 h;rw[IX j,e];simp[pY,bv]
def SQ (w:World) (l:List UInt8) (n:Nat) (e:Ending) (w':World):Prop:=
 (rB l=true/\∃A c,e=.returned (.tuple #[.slice A n c,.bool true])/\RB w' A c (pY l)/\BM w.heap.size A/\∃y,w'=w.more y) \/
 (rB l=false/\e=.returned (.tuple #[.slice none 0 0,.bool false])/\∃y,w'=w.more y)
theorem Bm {l:List UInt8} (h:∀j,j<l.length->∃c,l[j]?=some c/\xd c=true):rB l=true:=by
 unfold rB;rw[Bk];intro c I;obtain⟨j,o,rfl⟩:=List.getElem_of_mem I;obtain⟨c,e,J⟩:=h j o;rw[qn o]at e;cases e;exact J
theorem K6 {l:List UInt8} {j:Nat} {c:UInt8} (h:l[j]?=some c) (hc:xd c=false):rB l=false:=by
 unfold rB;rw[List.all_eq_false];obtain⟨o,e⟩:=rq.1 h;exact⟨c,by rw[<- e];exact Fq o,by simp[hc]⟩
theorem It (s:ByteArray) (w:World) (hs:s.size<=2000000) :
  Calls prog 185 #[s] w (SQ w s.data.toList s.size):=by
 go_in;go_wp2_with fail;go_loopw [4,8] (fun v i wr=>∃(k:Nat) (A:Option Addr) (c:Nat),k<=s.size/\i=.int .i64 k/\v=.slice A k c/\Hid (wr.ownsRow w.heap.size 4 1 (.slice A k c) k (bv (pY (s.data.toList.take k))))/\Hid (∀j,j<k->∃c,s.data.toList[j]?=some c/\xd c=true)/\ik w wr) (fun _ i _=>s.size-(intOf i).toNat)
 case atStart=>exact⟨0,none,0,iu,rfl,rfl,FL _ _ _ _,fun j h=>by omega,iR⟩
 case round=>
 obtain⟨k,A,c,hk,rfl,rfl,HO,HD,a8⟩:=hrel;by_cases a1:k<s.size
 ·have a7:(k:Int)<(s.size:Int):=iu
  have hb:=zy a1;have HT:=iy (Bi hb);have HB:=iy hb;clear hb;rcases I0 s[k] with⟨e,t1,t2,t3,t4⟩ | ⟨e,t1,t2,t3,t4⟩ | ⟨e,t1,t2,t3,t4⟩
  ·replace e:=iy e
   go_wp2_with (at_builtin;refine mh (w0:=w) wr rfl (.tmp 21) (.tmp 26) 257 rfl 4 _ 1 underlying257 Io rfl (.slice A k c) k _ (.bool false) rfl HO rfl rfl iu iu ?_;intro v1 w4 hown1 haft1;replace hown1:=iy hown1)
   obtain⟨R,J,rfl,_,_⟩:=ji hown1;go_roundw
   case rel=>exact⟨k+1,R,J,iu,by go_num,rfl,by show World.ownsRow _ _ _ _ _ _ _;rw[HT.out,e.out];exact hown1,fun j hj=>by
      rcases qa j k with h | h
      ·exact HD j h
      obtain rfl:j=k:=iu;exact⟨_,HB,by rw[e.out];rfl⟩,haft1⟩
   case measure=>simp[intOf];omega
  ·replace e:=iy e
   go_wp2_with (at_builtin;refine mh (w0:=w) wr rfl (.tmp 21) (.tmp 26) 257 rfl 4 _ 1 underlying257 Io rfl (.slice A k c) k _ (.bool true) rfl HO rfl rfl iu iu ?_;intro v1 w4 hown1 haft1;replace hown1:=iy hown1)
   obtain⟨R,J,rfl,_,_⟩:=ji hown1;go_roundw
   case rel=>exact⟨k+1,R,J,iu,by go_num,rfl,by show World.ownsRow _ _ _ _ _ _ _;rw[HT.out,e.out];exact hown1,fun j hj=>by
      rcases qa j k with h | h
      ·exact HD j h
      obtain rfl:j=k:=iu;exact⟨_,HB,by rw[e.out];rfl⟩,haft1⟩
   case measure=>simp[intOf];omega
  replace e:=iy e;go_wp2_with fail;go_ret2;exact .inr ⟨K6 HB e,rfl,jP _ _⟩
 obtain rfl:k=s.size:=iu;have hl:s.data.toList.length=s.size:=(ow rfl).symm;have U:=HO.out;rw[Dn iu]at U;have o:(pY s.data.toList).length=s.size:=by rw[zM,hl]
 have I:Hid (wr.ownsRow w.heap.size 4 1 (.slice A s.size c) (pY s.data.toList).length (bv (pY s.data.toList))):=by rw[o];exact U
 obtain⟨R,J,e1,x1⟩:=RB.so I (by rw[o];omega);injection e1 with e1 e2 e3
 subst e1;subst e3;have X1:=iy x1;have n1:=BM.so I;have a6:=iy (Bm (l:=s.data.toList) (fun j hj=>HD j iu));clear x1 U o e2 hl;go_wp2_with fail;go_ret2;exact .inl ⟨a6,_,_,rfl,X1,n1,jP _ _⟩
def ph (l:List UInt8):List UInt8:=l.takeWhile xd
def mg (c:Int):Bool:=(decide (97<=c)&&decide (c<=122))||(decide (65<=c)&&decide (c<=90))
def jw (c:Int):Bool:=decide (48<=c)&&decide (c<=57)
def jQ (c:Int):Bool:=mg c||jw c||c==95
theorem yg (c:Int) (w:World):Calls prog 109 #[.int .u8 c] w fun e w'=>e=.returned (.bool (mg c))/\ik w w':=by
 go_in;go_wp2;all_goals
  go_ret;exact⟨iK (by unfold mg;apply Bool.eq_iff_iff.2;simp;omega),iR⟩
theorem Aw (c:Int) (w:World):Calls prog 111 #[.int .u8 c] w fun e w'=>e=.returned (.bool (jw c))/\ik w w':=by
 go_in;go_wp2;all_goals
  go_ret;exact⟨iK (by unfold jw;apply Bool.eq_iff_iff.2;simp;omega),iR⟩
theorem Ed (c:Int) (w:World):Calls prog 146 #[.int .u8 c] w fun e w'=>e=.returned (.bool (jQ c))/\ik w w':=by
 obtain⟨a,I⟩:=jt (mg c);obtain⟨b,o⟩:=jt (jw c);have J:Hid (jQ c=(a||b||c==95)):=by show _=_;unfold jQ;rw[I,o]
 have R:Hid (∀U,Calls prog 109 #[.int .u8 c] U fun e w'=>e=.returned (.bool a)/\ik U w'):=fun U=>I▸yg c U
 have G2:Hid (∀U,Calls prog 111 #[.int .u8 c] U fun e w'=>e=.returned (.bool b)/\ik U w'):=fun U=>o▸Aw c U
 cases a
 ·cases b
  all_goals
   go_in;go_wp2_with fail;refine (R _).mono ?_;rintro e w2 ⟨rfl,j⟩;go_wp2_with fail;refine (G2 _).mono ?_;rintro e w3 ⟨rfl,k3⟩;have k4:=ij j k3;go_wp2;go_ret;exact⟨iK (by rw[J.out];first | rfl | simp),k4⟩
 go_in;go_wp2_with fail;refine (R _).mono ?_;rintro e w2 ⟨rfl,j⟩;go_wp2;go_ret;exact⟨iK (by rw[J.out];rfl),j⟩
def Tv:List (List UInt8):=[[97,115,115,117,109,101],[97,110,100],[97,117,116,111,109,97,116,111,110],[98,111,111,108],[99,111,110,116,105,110,117,101],[100,111],[100,111,110,101],[101,108,115,101],[101,110,100],[101,110,115,117,114,101],[101,118,101,114,121],[102,97,108,115,101],[102,98,121],[105,102],[105,110,116],[108,101,116],[109,101,114,103,101],[109,111,100],[110,111,100,101],[110,111,116],[111,114],[112,114,101],[114,101,116,117,114,110,115],[115,116,97,116,101],[116,101,108],[116,104,101,110],[116,114,117,101],[116,121,112,101],[117,110,108,101,115,115],[117,110,116,105,108],[118,97,114],[119,104,101,110],[120,111,114]]
def OM (s:ByteArray):Bool:=Tv.any fun k=>s.toList==k
theorem AJ (s:ByteArray) (w:World):Calls prog 147 #[s] w fun e w'=>e=.returned (.bool (OM s))/\ik w w':=by
 have j:Hid (OM s=(s.toList==[97,115,115,117,109,101]||s.toList==[97,110,100]||s.toList==[97,117,116,111,109,97,116,111,110]||s.toList==[98,111,111,108]||s.toList==[99,111,110,116,105,110,117,101]||s.toList==[100,111]||s.toList==[100,111,110,101]||s.toList==[101,108,115,101]||s.toList==[101,110,100]||s.toList==[101,110,115,117,114,101]||s.toList==[101,118,101,114,121]||s.toList==[102,97,108,115,101]||s.toList==[102,98,121]||s.toList==[105,102]||s.toList==[105,110,116]||s.toList==[108,101,116]||s.toList==[109,101,114,103,101]||s.toList==[109,111,100]||s.toList==[110,111,100,101]||s.toList==[110,111,116]||s.toList==[111,114]||s.toList==[112,114,101]||s.toList==[114,101,116,117,114,110,115]||s.toList==[115,116,97,116,101]||s.toList==[116,101,108]||s.toList==[116,104,101,110]||s.toList==[116,114,117,101]||s.toList==[116,121,112,101]||s.toList==[117,110,108,101,115,115]||s.toList==[117,110,116,105,108]||s.toList==[118,97,114]||s.toList==[119,104,101,110]||s.toList==[120,111,114])):=by show _=_;simp only[OM,Tv,List.any_cons,List.any_nil,Bool.or_false,Bool.or_assoc]
 go_in;go_wp2;all_goals
  go_ret;first
   |(refine⟨iK ?_,iR⟩;rw[j.out];simp only[*,Bool.or_true,Bool.true_or,Bool.or_false,Bool.false_or];done)
   |(exfalso;simp_all;done)
def kT (s:ByteArray):Bool:=decide (0<s.size)&&decide (s.size<=40)&&mg (s.data.toList.headD 0).toNat&&s.data.toList.all (fun c=>jQ c.toNat)&&!OM s
theorem Px {s:ByteArray} (h:0<s.size):s.data.toList.headD 0=s[0]:=by
 have:=zy (k:=0) h;rw[List.headD_eq_head?_getD,List.head?_eq_getElem?,this];rfl
theorem nC (s:ByteArray):s.toList=s.data.toList:=ByteArray.toList_eq s
theorem Ec {s:ByteArray} (h:0<s.size):s.toList.isEmpty=false:=by
 rw[nC];have j:s.data.toList.length=s.size:=(ow rfl).symm;cases e:s.data.toList with
 |nil=>rw[e]at j;simp at j;omega
 |cons a l=>rfl
theorem Ie {s:ByteArray} (h:s.size=0):s=⟨#[]⟩:=by
 have j:s.data.toList.length=s.size:=(ow rfl).symm;rw[h]at j;exact Ig (B_ j)
theorem Q9 {s:ByteArray} {k:Nat} (h:k<s.size) (hc:jQ s[k].toNat=false):s.data.toList.all (fun c=>jQ c.toNat)=false:=by
 rw[List.all_eq_false];obtain⟨j,e⟩:=rq.1 (zy h);exact⟨s[k],by rw[<- e];exact Fq j,by simp[hc]⟩
theorem O8 {s:ByteArray} (h:∀k (hk:k<s.size),jQ s[k].toNat=true):s.data.toList.all (fun c=>jQ c.toNat)=true:=by
 rw[Bk];intro c I;obtain⟨j,o,rfl⟩:=List.getElem_of_mem I;have J:s.data.toList.length=s.size:=(ow rfl).symm;have hk:j<s.size:=by omega
 have e:=zy hk;rw[qn o]at e;injection e with e
 rw[e];exact h j hk
theorem Ap (s:ByteArray) (hs:s.size<=140737488355328) (w:World):Calls prog 119 #[s] w fun e w'=>e=.returned (.bool (kT s))/\ik w w':=by
 by_cases h0:s.size=0
 ·have:=Ie h0
  subst this;go_in;go_wp2;go_ret;exact⟨rfl,inferInstance⟩
 have hp:0<s.size:=by omega
 have ab:=Ec hp;have hI:(0:Int)<(s.size:Int):=by omega
 have HP:=iy hp;by_cases a':40<s.size
 ·have a_:(40:Int)<(s.size:Int):=by omega
  have HF:Hid (kT s=false):=by show _=_;unfold kT;rw[show decide (s.size<=40)=false by simpa using a'];simp
  go_in;go_wp2;go_ret;exact⟨iK (by rw[HF.out]),inferInstance⟩
 have a_:(s.size:Int)<=40:=by omega
 obtain⟨a,ha⟩:∃a,mg (s[0].toNat:Int)=a:=⟨_,rfl⟩;obtain⟨q,hq⟩:∃q,OM s=q:=⟨_,rfl⟩;have HD:Hid (kT s=(a&&s.data.toList.all (fun c=>jQ c.toNat)&&!q)):=by
  have e9:mg ((s.data.toList.headD 0).toNat:Int)=a:=by rw[Px hp];exact ha
  show _=_;unfold kT;rw[e9,hq,show decide (s.size<=40)=true by simp;omega,show decide (0<s.size)=true by simpa using hp];simp
 have G1:Hid (∀U,Calls prog 109 #[.int .u8 (s[0].toNat:Nat)] U fun e w'=>e=.returned (.bool a)/\ik U w'):=fun U=>ha▸yg _ U
 have G2:Hid (∀U,Calls prog 147 #[s] U fun e w'=>e=.returned (.bool q)/\ik U w'):=fun U=>hq▸AJ s U
 cases a
 ·go_in
  go_wp2_with fail;refine (G1 _).mono ?_;rintro e w1 ⟨rfl,I⟩;have o:ik w w1:=I;go_wp2;go_ret;exact⟨iK (by rw[HD.out];rfl),o⟩
 cases q
 ·go_in
  go_wp2_with fail;refine (G1 _).mono ?_;rintro e w1 ⟨rfl,I⟩;have o:ik w w1:=I;go_wp2_with fail;refine (G2 _).mono ?_;rintro e w2 ⟨rfl,a6⟩;have R:ik w w2:=ij o a6;go_wp2_with fail;go_loopw [23] (fun i wr=>∃k:Nat,k<=s.size/\i=.int .i64 (k:Nat)/\Hid (∀j (hj:j<s.size),j<k->jQ s[j].toNat=true)/\ik w wr) (fun i _=>s.size-(intOf i).toNat)
  case atStart=>exact⟨0,by omega,rfl,fun j _ h=>by omega,R⟩
  case round=>
  obtain⟨k,hk,rfl,HA,kr⟩:=hrel;by_cases a8:k<s.size
  ·have aa:(k:Int)<(s.size:Int):=by omega
   obtain⟨b,hb⟩:∃b,jQ (s[k].toNat:Int)=b:=⟨_,rfl⟩;have G3:Hid (∀U,Calls prog 146 #[.int .u8 (s[k].toNat:Nat)] U fun e w'=>e=.returned (.bool b)/\ik U w'):=fun U=>hb▸Ed _ U
   have HB:=iB hb;cases b
   ·go_wp2_with fail
    refine (G3 _).mono ?_;rintro e w5 ⟨rfl,a1⟩;have J:ik w w5:=ij kr a1;have HF:Hid (kT s=false):=by show _=_;rw[HD.out,Q9 a8 HB.out];simp
    go_wp2;go_ret;exact⟨iK (by rw[HF.out]),J⟩
   go_wp2_with fail;refine (G3 _).mono ?_;rintro e w5 ⟨rfl,a1⟩;have J:ik w w5:=ij kr a1;go_wp2;go_roundw
   case rel=>exact⟨k+1,by omega,by go_num,fun j hj h=>by
     rcases qa j k with h_ | h_
     ·exact HA j hj h_
     obtain rfl:j=k:=by omega
     exact HB,J⟩
   case measure=>simp[intOf];omega
  obtain rfl:k=s.size:=by omega
  have a7:=O8 (s:=s) (fun j hj=>HA j hj hj);have HF:Hid (kT s=true):=by show _=_;rw[HD.out,a7];rfl
  go_wp2;go_ret;exact⟨iK (by rw[HF.out]),kr⟩
 go_in;go_wp2_with fail;refine (G1 _).mono ?_;rintro e w1 ⟨rfl,I⟩;have o:ik w w1:=I;go_wp2_with fail;refine (G2 _).mono ?_;rintro e w2 ⟨rfl,a6⟩;have R:ik w w2:=ij o a6;go_wp2;go_ret;exact⟨iK (by rw[HD.out];simp),R⟩
structure F4 (w:World) (A:Option Addr) (c:Nat) (l:List ByteArray):Prop where
 cells:∀k s,l[k]?=some s->∃b o,A=some ⟨b,o,none⟩/\b<w.heap.size/\w.cell? ⟨b,o+k,none⟩=some (.string s)
 le:l.length<=c
 cap:c<=9223372036854775807
 len:l.length<=140737488355328
theorem F4.below {w w':World} {A c l} (h:F4 w A c l) (hb:Below w.heap.size w w'):F4 w' A c l:=by
 refine⟨fun k s I=>?_,h.le,h.cap,h.len⟩;obtain⟨b,o,e,j,J⟩:=h.cells k s I;exact⟨b,o,e,rO j hb.size,(hb.cell (p:=⟨b,o+k,none⟩) j).trans J⟩
theorem F4.here {w0:World} {A c l} (h:F4 w0 A c l) (w:World) [k:ik w0 w]:F4 w A c l:=h.below k.below
theorem F4.at_ {w:World} {A c l} (h:F4 w A c l) {k:Nat} (hk:k<l.length):∃b o s,A=some ⟨b,o,none⟩/\Le (b+1) w/\w.cell? ⟨b,o+k,none⟩=some (.string s)/\Hid (l[k]?=some s):=by
 obtain⟨b,o,e,j,I⟩:=h.cells k _ (qn hk);exact⟨b,o,_,e,⟨j⟩,I,qn hk⟩
theorem F4.Oh {w:World} {g:Nat} {t:TypeId} {l:List ByteArray} (h:iP w g t (l.map Value.string).toArray) (hl:l.length<=2000000):F4 w (some ⟨g,0,none⟩) l.length l:=by
 refine⟨fun k s j=>⟨g,0,rfl,h.lt,?_⟩,js _,iu,iu⟩;rw[t_,h.cell];simp[j]
abbrev lM:=@iP.Og
abbrev BR:=@iP.mask
abbrev v_:=@ir.sub
abbrev uK:=@RB.Tq
end Go.Proofs.YtnigblndonocfaaGreatDoor
