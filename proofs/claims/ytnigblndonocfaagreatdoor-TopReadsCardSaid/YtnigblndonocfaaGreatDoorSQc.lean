/- A part of the proof. -/
import Derived.Test.YtnigblndonocfaaGreatDoorSQb
set_option linter.unusedVariables false
set_option linter.unusedSimpArgs false
namespace Go.Proofs.YtnigblndonocfaaGreatDoor
set_option maxRecDepth 100000
set_option maxHeartbeats 3200000
open Go.Proofs.Tryz
open Go.RowKit Go.BigFrame
section
variable {S:Prop}
theorem EJ {w0:World} {nm nm':ByteArray} {tA:Option Addr} {tc:Nat} {tl:List ByteArray} {tA':Option Addr} {tc':Nat} {tl':List ByteArray} (hx:ir 1 sR w0 ⟨tA,tc,tl⟩) (hy:ir 1 sR w0 ⟨tA',tc',tl'⟩) (w:World) (aft:ik w0 w) :
  Calls prog 22 #[.agg #[nm,.slice tA tl.length tc],.agg #[nm',.slice tA' tl'.length tc']] w fun e w'=>e=.returned (.bool (nx ⟨nm,⟨tA,tc,tl⟩⟩ ⟨nm',⟨tA',tc',tl'⟩⟩))/\ik w w':=by
 have o:Hid (∀U:World,ik w0 U->Calls prog 49 #[.slice tA tl.length tc,.slice tA' tl'.length tc'] U fun e w'=>e=.returned (.bool (iU kB tl tl'))/\ik U w'):=iy fun U hU=>DH hx hy U hU
 obtain⟨q0,R⟩:=jt ((nm.toList==nm'.toList));obtain⟨q1,j⟩:=jt ((iU kB tl tl'));have HV:Hid (nx ⟨nm,⟨tA,tc,tl⟩⟩ ⟨nm',⟨tA',tc',tl'⟩⟩=(q0&&(q1))):=by
  show _=_
  rw[<- R,<- j];rfl
 rw[j]at o;clear j hx hy;obtain⟨g,hg⟩:=jt (w.heap.size);obtain⟨W2,a1,a2,HK⟩:∃W,(w.alloc (.cells #[nm,.slice tA tl.length tc] 57)).alloc (.cells #[nm',.slice tA' tl'.length tc'] 57)=W/\ik w W/\Hid (∀U:World,ik W U->U.cell? g=some (.string nm)/\U.cell? ⟨g,1,none⟩=some (.slice tA tl.length tc)/\U.cell? ⟨g+1,0,none⟩=some (.string nm')/\U.cell? ⟨g+1,1,none⟩=some (.slice tA' tl'.length tc')/\Le (g+1) U/\Le (g+1+1) U):=by
  refine⟨_,rfl,iR,fun U hU=>?_⟩;have J:=((jC w 57 #[nm,.slice tA tl.length tc]).alloc (.cells #[nm',.slice tA' tl'.length tc'] 57)).after (w':=U);have I:=(AO (w:=w.alloc (.cells #[nm,.slice tA tl.length tc] 57)) (iH _ _) 57 #[nm',.slice tA' tl'.length tc']).after (w':=U);rw[hg]at J I;exact⟨(J.cell 0).trans rfl,(J.cell 1).trans rfl,(I.cell 0).trans rfl,(I.cell 1).trans rfl,J.is_le,I.is_le⟩
 cases q0 with
 |false=>
  clear HK a2 a1 hg;go_in;go_wp2;go_ret;exact⟨iK (by rw[HV.out]<;>simp),iR⟩
 |true=>
 obtain⟨k0,k1,m0,m1,kl,ml⟩:=HK W2 (iq _);go_in;go_wp2_with fail;refine (o W2 (ij aft a2)).mono ?_;rintro e w4 ⟨rfl,a6⟩;have d1:=ij a2 a6;go_wp2;go_ret;exact⟨iK (by rw[HV.out]<;>simp),d1⟩
theorem EE {w0:World} {nm nm':ByteArray} {ty ty':Int} {cA:Option Addr} {cc:Nat} {cl:List sO} {cA':Option Addr} {cc':Nat} {cl':List sO} (hx:ir 3 KJ w0 ⟨cA,cc,cl⟩) (hy:ir 3 KJ w0 ⟨cA',cc',cl'⟩) (w:World) (aft:ik w0 w) :
  Calls prog 51 #[.agg #[nm,ty,.slice cA cl.length cc],.agg #[nm',ty',.slice cA' cl'.length cc']] w fun e w'=>e=.returned (.bool (jO ⟨nm,ty,⟨cA,cc,cl⟩⟩ ⟨nm',ty',⟨cA',cc',cl'⟩⟩))/\ik w w':=by
 have R:Hid (∀U:World,ik w0 U->Calls prog 94 #[.slice cA cl.length cc,.slice cA' cl'.length cc'] U fun e w'=>e=.returned (.bool (iU oO cl cl'))/\ik U w'):=iy fun U hU=>Ml hx hy U hU
 obtain⟨q0,a6⟩:=jt ((nm.toList==nm'.toList));obtain⟨q1,a1⟩:=jt ((ty==ty'));obtain⟨q2,j⟩:=jt ((iU oO cl cl'));have HV:Hid (jO ⟨nm,ty,⟨cA,cc,cl⟩⟩ ⟨nm',ty',⟨cA',cc',cl'⟩⟩=(q0&&(q1&&(q2)))):=by
  show _=_
  rw[<- a6,<- a1,<- j];rfl
 rw[j]at R;clear j hx hy;obtain⟨g,hg⟩:=jt (w.heap.size);obtain⟨W2,o,a2,HK⟩:∃W,(w.alloc (.cells #[nm,ty,.slice cA cl.length cc] 77)).alloc (.cells #[nm',ty',.slice cA' cl'.length cc'] 77)=W/\ik w W/\Hid (∀U:World,ik W U->U.cell? g=some (.string nm)/\U.cell? ⟨g,1,none⟩=some (.int .i64 ty)/\U.cell? ⟨g,2,none⟩=some (.slice cA cl.length cc)/\U.cell? ⟨g+1,0,none⟩=some (.string nm')/\U.cell? ⟨g+1,1,none⟩=some (.int .i64 ty')/\U.cell? ⟨g+1,2,none⟩=some (.slice cA' cl'.length cc')/\Le (g+1) U/\Le (g+1+1) U):=by
  refine⟨_,rfl,iR,fun U hU=>?_⟩;have J:=((jC w 77 #[nm,ty,.slice cA cl.length cc]).alloc (.cells #[nm',ty',.slice cA' cl'.length cc'] 77)).after (w':=U);have I:=(AO (w:=w.alloc (.cells #[nm,ty,.slice cA cl.length cc] 77)) (iH _ _) 77 #[nm',ty',.slice cA' cl'.length cc']).after (w':=U);rw[hg]at J I;exact⟨(J.cell 0).trans rfl,(J.cell 1).trans rfl,(J.cell 2).trans rfl,(I.cell 0).trans rfl,(I.cell 1).trans rfl,(I.cell 2).trans rfl,J.is_le,I.is_le⟩
 cases q0 with
 |false=>
  clear HK a2 o hg;go_in;go_wp2;go_ret;exact⟨iK (by rw[HV.out]<;>simp),iR⟩
 |true=>
 cases q1 with
 |false=>
  clear HK a2 o hg;go_in;go_wp2;go_ret;exact⟨iK (by rw[HV.out]<;>simp),iR⟩
 |true=>
 obtain⟨k0,k1,k2,m0,m1,m2,kl,ml⟩:=HK W2 (iq _);go_in;go_wp2_with fail;refine (R W2 (ij aft a2)).mono ?_;rintro e w5 ⟨rfl,a7⟩;have d2:=ij a2 a7;go_wp2;go_ret;exact⟨iK (by rw[HV.out]<;>simp),d2⟩
theorem Jc {w0:World} {lA:Option Addr} {lc:Nat} {ll:List ByteArray} {lA':Option Addr} {lc':Nat} {ll':List ByteArray} {k o t v:Int} {s:ByteArray} {A:Option Addr} {c:Nat} {xs:List Tx} {k' o' t' v':Int} {s':ByteArray} {A':Option Addr} {c':Nat} {xs':List Tx} (hx:ir 1 sR w0 ⟨lA,lc,ll⟩) (hy:ir 1 sR w0 ⟨lA',lc',ll'⟩) (hX:RX w0 (.mk k o t v s A c xs)) (hX':RX w0 (.mk k' o' t' v' s' A' c' xs')) (w:World) (aft:ik w0 w) :
  Calls prog 53 #[.agg #[.slice lA ll.length lc,k,o,t,v,s,.slice A xs.length c],.agg #[.slice lA' ll'.length lc',k',o',t',v',s',.slice A' xs'.length c']] w fun e w'=>e=.returned (.bool (mx ⟨⟨lA,lc,ll⟩,⟨k,o,t,v,s,A,c,xs⟩⟩ ⟨⟨lA',lc',ll'⟩,⟨k',o',t',v',s',A',c',xs'⟩⟩))/\ik w w':=by
 have a7:Hid (∀U:World,ik w0 U->Calls prog 49 #[.slice lA ll.length lc,.slice lA' ll'.length lc'] U fun e w'=>e=.returned (.bool (iU kB ll ll'))/\ik U w'):=iy fun U hU=>DH hx hy U hU
 have a6:Hid (∀U:World,ik w0 U->Calls prog 57 #[.agg #[k,o,t,v,s,.slice A xs.length c],.agg #[k',o',t',v',s',.slice A' xs'.length c']] U fun e w'=>e=.returned (.bool ((Tx.mk k o t v s A c xs).same (.mk k' o' t' v' s' A' c' xs')))/\ik U w'):=iy fun U hU=>CW hX hX' U hU
 obtain⟨q0,R⟩:=jt ((iU kB ll ll'));obtain⟨q1,J⟩:=jt (((Tx.mk k o t v s A c xs).same (.mk k' o' t' v' s' A' c' xs')));have HV:Hid (mx ⟨⟨lA,lc,ll⟩,⟨k,o,t,v,s,A,c,xs⟩⟩ ⟨⟨lA',lc',ll'⟩,⟨k',o',t',v',s',A',c',xs'⟩⟩=(q0&&(q1))):=by
  show _=_
  rw[<- R,<- J];rfl
 rw[R]at a7;rw[J]at a6;obtain⟨g,hg⟩:=jt (w.heap.size);obtain⟨W2,a_,a2,HK⟩:∃W,(w.alloc (.cells #[.slice lA ll.length lc,k,o,t,v,s,.slice A xs.length c] 79)).alloc (.cells #[.slice lA' ll'.length lc',k',o',t',v',s',.slice A' xs'.length c'] 79)=W/\ik w W/\Hid (∀U:World,ik W U->U.cell? g=some (.slice lA ll.length lc)/\U.cell? ⟨g,1,none⟩=some (.int .i64 k)/\U.cell? ⟨g,2,none⟩=some (.int .i64 o)/\U.cell? ⟨g,3,none⟩=some (.int .i64 t)/\U.cell? ⟨g,4,none⟩=some (.int .i64 v)/\U.cell? ⟨g,5,none⟩=some (.string s)/\U.cell? ⟨g,6,none⟩=some (.slice A xs.length c)/\U.cell? ⟨g+1,0,none⟩=some (.slice lA' ll'.length lc')/\U.cell? ⟨g+1,1,none⟩=some (.int .i64 k')/\U.cell? ⟨g+1,2,none⟩=some (.int .i64 o')/\U.cell? ⟨g+1,3,none⟩=some (.int .i64 t')/\U.cell? ⟨g+1,4,none⟩=some (.int .i64 v')/\U.cell? ⟨g+1,5,none⟩=some (.string s')/\U.cell? ⟨g+1,6,none⟩=some (.slice A' xs'.length c')/\Le (g+1) U/\Le (g+1+1) U):=by
  refine⟨_,rfl,iR,fun U hU=>?_⟩;have I:=((jC w 79 #[.slice lA ll.length lc,k,o,t,v,s,.slice A xs.length c]).alloc (.cells #[.slice lA' ll'.length lc',k',o',t',v',s',.slice A' xs'.length c'] 79)).after (w':=U);have j:=(AO (w:=w.alloc (.cells #[.slice lA ll.length lc,k,o,t,v,s,.slice A xs.length c] 79)) (iH _ _) 79 #[.slice lA' ll'.length lc',k',o',t',v',s',.slice A' xs'.length c']).after (w':=U);rw[hg]at I j;exact⟨(I.cell 0).trans rfl,(I.cell 1).trans rfl,(I.cell 2).trans rfl,(I.cell 3).trans rfl,(I.cell 4).trans rfl,(I.cell 5).trans rfl,(I.cell 6).trans rfl,(j.cell 0).trans rfl,(j.cell 1).trans rfl,(j.cell 2).trans rfl,(j.cell 3).trans rfl,(j.cell 4).trans rfl,(j.cell 5).trans rfl,(j.cell 6).trans rfl,I.is_le,j.is_le⟩
 obtain⟨k0,k1,k2,k3,k4,k5,k6,m0,m1,m2,m3,m4,m5,m6,kl,ml⟩:=HK W2 (iq _);go_in;go_wp2_with fail;refine (a7 W2 (ij aft a2)).mono ?_;rintro e w3 ⟨rfl,a1⟩;have d0:=ij a2 a1;have b0:=ij (iq W2) a1;obtain⟨k0,k1,k2,k3,k4,k5,k6,m0,m1,m2,m3,m4,m5,m6,kl,ml⟩:=HK w3 b0;cases q0 with
 |false=>
  go_wp2;go_ret;exact⟨iK (by rw[HV.out]<;>simp),d0⟩
 |true=>
 go_wp2_with fail;refine (a6 w3 (ij aft d0)).mono ?_;rintro e w4 ⟨rfl,a8⟩;have d1:=ij d0 a8;go_wp2;go_ret;exact⟨iK (by rw[HV.out]<;>simp),d1⟩
theorem Di {w0:World} {ds ds':Int} {re re':Bool} {k o t v:Int} {s:ByteArray} {A:Option Addr} {c:Nat} {xs:List Tx} {k' o' t' v':Int} {s':ByteArray} {A':Option Addr} {c':Nat} {xs':List Tx} (hX:RX w0 (.mk k o t v s A c xs)) (hX':RX w0 (.mk k' o' t' v' s' A' c' xs')) (w:World) (aft:ik w0 w) :
  Calls prog 136 #[.agg #[k,o,t,v,s,.slice A xs.length c,ds,.bool re],.agg #[k',o',t',v',s',.slice A' xs'.length c',ds',.bool re']] w fun e w'=>e=.returned (.bool (mj ⟨⟨k,o,t,v,s,A,c,xs⟩,ds,re⟩ ⟨⟨k',o',t',v',s',A',c',xs'⟩,ds',re'⟩))/\ik w w':=by
 have a1:Hid (∀U:World,ik w0 U->Calls prog 57 #[.agg #[k,o,t,v,s,.slice A xs.length c],.agg #[k',o',t',v',s',.slice A' xs'.length c']] U fun e w'=>e=.returned (.bool ((Tx.mk k o t v s A c xs).same (.mk k' o' t' v' s' A' c' xs')))/\ik U w'):=iy fun U hU=>CW hX hX' U hU
 obtain⟨q0,a7⟩:=jt ((ds==ds'));obtain⟨q1,a6⟩:=jt ((re==re'));obtain⟨q2,J⟩:=jt (((Tx.mk k o t v s A c xs).same (.mk k' o' t' v' s' A' c' xs')));have HV:Hid (mj ⟨⟨k,o,t,v,s,A,c,xs⟩,ds,re⟩ ⟨⟨k',o',t',v',s',A',c',xs'⟩,ds',re'⟩=(q0&&(q1&&(q2)))):=by
  show _=_
  rw[<- a7,<- a6,<- J];rfl
 rw[J]at a1;clear J hX hX';obtain⟨g,hg⟩:=jt (w.heap.size);obtain⟨W2,R,a2,HK⟩:∃W,(w.alloc (.cells #[k,o,t,v,s,.slice A xs.length c,ds,.bool re] 223)).alloc (.cells #[k',o',t',v',s',.slice A' xs'.length c',ds',.bool re'] 223)=W/\ik w W/\Hid (∀U:World,ik W U->U.cell? g=some (.int .i64 k)/\U.cell? ⟨g,1,none⟩=some (.int .i64 o)/\U.cell? ⟨g,2,none⟩=some (.int .i64 t)/\U.cell? ⟨g,3,none⟩=some (.int .i64 v)/\U.cell? ⟨g,4,none⟩=some (.string s)/\U.cell? ⟨g,5,none⟩=some (.slice A xs.length c)/\U.cell? ⟨g,6,none⟩=some (.int .i64 ds)/\U.cell? ⟨g,7,none⟩=some (.bool re)/\U.cell? ⟨g+1,0,none⟩=some (.int .i64 k')/\U.cell? ⟨g+1,1,none⟩=some (.int .i64 o')/\U.cell? ⟨g+1,2,none⟩=some (.int .i64 t')/\U.cell? ⟨g+1,3,none⟩=some (.int .i64 v')/\U.cell? ⟨g+1,4,none⟩=some (.string s')/\U.cell? ⟨g+1,5,none⟩=some (.slice A' xs'.length c')/\U.cell? ⟨g+1,6,none⟩=some (.int .i64 ds')/\U.cell? ⟨g+1,7,none⟩=some (.bool re')/\Le (g+1) U/\Le (g+1+1) U):=by
  refine⟨_,rfl,iR,fun U hU=>?_⟩;have I:=((jC w 223 #[k,o,t,v,s,.slice A xs.length c,ds,.bool re]).alloc (.cells #[k',o',t',v',s',.slice A' xs'.length c',ds',.bool re'] 223)).after (w':=U);have j:=(AO (w:=w.alloc (.cells #[k,o,t,v,s,.slice A xs.length c,ds,.bool re] 223)) (iH _ _) 223 #[k',o',t',v',s',.slice A' xs'.length c',ds',.bool re']).after (w':=U);rw[hg]at I j;exact⟨(I.cell 0).trans rfl,(I.cell 1).trans rfl,(I.cell 2).trans rfl,(I.cell 3).trans rfl,(I.cell 4).trans rfl,(I.cell 5).trans rfl,(I.cell 6).trans rfl,(I.cell 7).trans rfl,(j.cell 0).trans rfl,(j.cell 1).trans rfl,(j.cell 2).trans rfl,(j.cell 3).trans rfl,(j.cell 4).trans rfl,(j.cell 5).trans rfl,(j.cell 6).trans rfl,(j.cell 7).trans rfl,I.is_le,j.is_le⟩
 cases q0 with
 |false=>
  clear HK a2 R hg;go_in;go_wp2;go_ret;exact⟨iK (by rw[HV.out]<;>simp),iR⟩
 |true=>
 cases q1 with
 |false=>
  clear HK a2 R hg;go_in;go_wp2;go_ret;exact⟨iK (by rw[HV.out]<;>simp),iR⟩
 |true=>
 obtain⟨k0,k1,k2,k3,k4,k5,k6,k7,m0,m1,m2,m3,m4,m5,m6,m7,kl,ml⟩:=HK W2 (iq _);go_in;go_wp2_with fail;refine (a1 W2 (ij aft a2)).mono ?_;rintro e w5 ⟨rfl,a8⟩;have d2:=ij a2 a8;go_wp2;go_ret;exact⟨iK (by rw[HV.out]<;>simp),d2⟩
theorem M3 {w0:World} {A1 B1:Option Addr} {c1 d1:Nat} {xl yl:List iW} (x:ir 2 sM w0 ⟨A1,c1,xl⟩) (y:ir 2 sM w0 ⟨B1,d1,yl⟩) (w:World) (aft:ik w0 w) :
  Calls prog 21 #[.slice A1 xl.length c1,.slice B1 yl.length d1,.func (.func 22) #[] #[]] w fun e w'=>e=.returned (.bool (iU nx xl yl))/\ik w w':=
 Re x y w aft fun i a b h1 h2 U hU=>by
  obtain⟨_,_,h3⟩:=x.elem h1;obtain⟨_,_,h4⟩:=y.elem h2;obtain⟨nm,⟨tA,tc,tl⟩⟩:=a;obtain⟨nm',⟨tA',tc',tl'⟩⟩:=b;exact EJ h3.tg h4.tg U hU
theorem yM {w0:World} {A1 B1:Option Addr} {c1 d1:Nat} {xl yl:List iO} (x:ir 3 jG w0 ⟨A1,c1,xl⟩) (y:ir 3 jG w0 ⟨B1,d1,yl⟩) (w:World) (aft:ik w0 w) :
  Calls prog 50 #[.slice A1 xl.length c1,.slice B1 yl.length d1,.func (.func 51) #[] #[]] w fun e w'=>e=.returned (.bool (iU jO xl yl))/\ik w w':=
 NX x y w aft fun i a b h1 h2 U hU=>by
  obtain⟨_,_,h3⟩:=x.elem h1;obtain⟨_,_,h4⟩:=y.elem h2;obtain⟨nm,ty,⟨cA,cc,cl⟩⟩:=a;obtain⟨nm',ty',⟨cA',cc',cl'⟩⟩:=b;exact EE h3.cl h4.cl U hU
theorem NN {w0:World} {A1 B1:Option Addr} {c1 d1:Nat} {xl yl:List oX} (x:ir 7 (xv S) w0 ⟨A1,c1,xl⟩) (y:ir 7 (xv S) w0 ⟨B1,d1,yl⟩) (w:World) (aft:ik w0 w) :
  Calls prog 52 #[.slice A1 xl.length c1,.slice B1 yl.length d1,.func (.func 53) #[] #[]] w fun e w'=>e=.returned (.bool (iU mx xl yl))/\ik w w':=
 Qt x y w aft fun i a b h1 h2 U hU=>by
  obtain⟨_,_,h3⟩:=x.elem h1;obtain⟨_,_,h4⟩:=y.elem h2;obtain⟨⟨lA,lc,ll⟩,⟨k,o,t,v,s,A,c,xs⟩⟩:=a;obtain⟨⟨lA',lc',ll'⟩,⟨k',o',t',v',s',A',c',xs'⟩⟩:=b;exact Jc h3.lf h4.lf h3.ri h4.ri U hU
theorem Ng {w0:World} {A1 B1:Option Addr} {c1 d1:Nat} {xl yl:List ma} (x:ir 8 (Eo S) w0 ⟨A1,c1,xl⟩) (y:ir 8 (Eo S) w0 ⟨B1,d1,yl⟩) (w:World) (aft:ik w0 w) :
  Calls prog 135 #[.slice A1 xl.length c1,.slice B1 yl.length d1,.func (.func 136) #[] #[]] w fun e w'=>e=.returned (.bool (iU mj xl yl))/\ik w w':=
 Q4 x y w aft fun i a b h1 h2 U hU=>by
  obtain⟨_,_,h3⟩:=x.elem h1;obtain⟨_,_,h4⟩:=y.elem h2;obtain⟨⟨k,o,t,v,s,A,c,xs⟩,ds,re⟩:=a;obtain⟨⟨k',o',t',v',s',A',c',xs'⟩,ds',re'⟩:=b;exact Di h3.co h4.co U hU
theorem MP {w0:World} {A1 B1:Option Addr} {c1 d1:Nat} {xl yl:List Tx} (x:ir 6 (Bu S) w0 ⟨A1,c1,xl⟩) (y:ir 6 (Bu S) w0 ⟨B1,d1,yl⟩) (w:World) (aft:ik w0 w) :
  Calls prog 56 #[.slice A1 xl.length c1,.slice B1 yl.length d1,.func (.func 57) #[] #[]] w fun e w'=>e=.returned (.bool (iU Tx.same xl yl))/\ik w w':=
 Qy x y w aft fun i a b h1 h2 U hU=>by
  obtain⟨_,_,h3⟩:=x.elem h1;obtain⟨_,_,h4⟩:=y.elem h2;obtain⟨k,o,t,v,s,A,c,xs⟩:=a;obtain⟨k',o',t',v',s',A',c',xs'⟩:=b;exact CW h3.rx h4.rx U hU
theorem EP {w0:World} {nm nm':ByteArray} {loA:Option Addr} {loc:Nat} {lo:List iO} {loA':Option Addr} {loc':Nat} {lo':List iO} {eqA:Option Addr} {eqc:Nat} {eq:List oX} {eqA':Option Addr} {eqc':Nat} {eq':List oX} {aA:Option Addr} {ac:Nat} {au:List AuT} {aA':Option Addr} {ac':Nat} {au':List AuT} {ulA:Option Addr} {ulc:Nat} {ul:List ma} {ulA':Option Addr} {ulc':Nat} {ul':List ma} {utA:Option Addr} {utc:Nat} {ut:List ma} {utA':Option Addr} {utc':Nat} {ut':List ma} (h1:ir 3 jG w0 ⟨loA,loc,lo⟩) (h1':ir 3 jG w0 ⟨loA',loc',lo'⟩) (h2:ir 7 (xv S) w0 ⟨eqA,eqc,eq⟩) (h2':ir 7 (xv S) w0 ⟨eqA',eqc',eq'⟩) (h3:ir 8 (Eo S) w0 ⟨ulA,ulc,ul⟩) (h3':ir 8 (Eo S) w0 ⟨ulA',ulc',ul'⟩) (h4:ir 8 (Eo S) w0 ⟨utA,utc,ut⟩) (h4':ir 8 (Eo S) w0 ⟨utA',utc',ut'⟩) (hA:∀U:World,ik w0 U->Calls prog 54 #[.slice aA au.length ac,.slice aA' au'.length ac',.func (.func 55) #[] #[]] U fun e w'=>e=.returned (.bool (iU lE au au'))/\ik U w') (w:World) (aft:ik w0 w) :
  Calls prog 96 #[.agg #[nm,.slice loA lo.length loc,.slice eqA eq.length eqc,.slice aA au.length ac,.slice ulA ul.length ulc,.slice utA ut.length utc],.agg #[nm',.slice loA' lo'.length loc',.slice eqA' eq'.length eqc',.slice aA' au'.length ac',.slice ulA' ul'.length ulc',.slice utA' ut'.length utc']] w fun e w'=>e=.returned (.bool (mw ⟨nm,⟨loA,loc,lo⟩,⟨eqA,eqc,eq⟩,aA,ac,au,⟨ulA,ulc,ul⟩,⟨utA,utc,ut⟩⟩ ⟨nm',⟨loA',loc',lo'⟩,⟨eqA',eqc',eq'⟩,aA',ac',au',⟨ulA',ulc',ul'⟩,⟨utA',utc',ut'⟩⟩))/\ik w w':=by
 have ag:Hid (∀U:World,ik w0 U->Calls prog 50 #[.slice loA lo.length loc,.slice loA' lo'.length loc',.func (.func 51) #[] #[]] U fun e w'=>e=.returned (.bool (iU jO lo lo'))/\ik U w'):=iy fun U j=>yM h1 h1' U j
 have af:Hid (∀U:World,ik w0 U->Calls prog 52 #[.slice eqA eq.length eqc,.slice eqA' eq'.length eqc',.func (.func 53) #[] #[]] U fun e w'=>e=.returned (.bool (iU mx eq eq'))/\ik U w'):=iy fun U j=>NN h2 h2' U j
 have ae:Hid (∀U:World,ik w0 U->Calls prog 54 #[.slice aA au.length ac,.slice aA' au'.length ac',.func (.func 55) #[] #[]] U fun e w'=>e=.returned (.bool (iU lE au au'))/\ik U w'):=iy fun U j=>hA U j
 have ad:Hid (∀U:World,ik w0 U->Calls prog 135 #[.slice ulA ul.length ulc,.slice ulA' ul'.length ulc',.func (.func 136) #[] #[]] U fun e w'=>e=.returned (.bool (iU mj ul ul'))/\ik U w'):=iy fun U j=>Ng h3 h3' U j
 have ab:Hid (∀U:World,ik w0 U->Calls prog 135 #[.slice utA ut.length utc,.slice utA' ut'.length utc',.func (.func 136) #[] #[]] U fun e w'=>e=.returned (.bool (iU mj ut ut'))/\ik U w'):=iy fun U j=>Ng h4 h4' U j
 obtain⟨q0,ah⟩:=jt ((nm.toList==nm'.toList));obtain⟨q1,a7⟩:=jt ((iU jO lo lo'));obtain⟨q2,a6⟩:=jt ((iU mx eq eq'));obtain⟨q3,a1⟩:=jt ((iU lE au au'));obtain⟨q4,R⟩:=jt ((iU mj ul ul'));obtain⟨q5,J⟩:=jt ((iU mj ut ut'));have HV:Hid (mw ⟨nm,⟨loA,loc,lo⟩,⟨eqA,eqc,eq⟩,aA,ac,au,⟨ulA,ulc,ul⟩,⟨utA,utc,ut⟩⟩ ⟨nm',⟨loA',loc',lo'⟩,⟨eqA',eqc',eq'⟩,aA',ac',au',⟨ulA',ulc',ul'⟩,⟨utA',utc',ut'⟩⟩=(q0&&(q1&&(q2&&(q3&&(q4&&(q5))))))):=by
  show _=_
  rw[<- ah,<- a7,<- a6,<- a1,<- R,<- J];exact K9 _ _ _ _ _ _ _ _ _ _ _ _ _ _ _ _
 rw[a7]at ag;rw[a6]at af;rw[a1]at ae;rw[R]at ad;rw[J]at ab;clear a7 a6 a1 R J h1 h1' h2 h2' h3 h3' h4 h4' hA;obtain⟨g,hg⟩:=jt (w.heap.size);obtain⟨W2,ai,a2,HK⟩:∃W,(w.alloc (.cells #[nm,.slice loA lo.length loc,.slice eqA eq.length eqc,.slice aA au.length ac,.slice ulA ul.length ulc,.slice utA ut.length utc] 184)).alloc (.cells #[nm',.slice loA' lo'.length loc',.slice eqA' eq'.length eqc',.slice aA' au'.length ac',.slice ulA' ul'.length ulc',.slice utA' ut'.length utc'] 184)=W/\ik w W/\Hid (∀U:World,ik W U->U.cell? g=some (.string nm)/\U.cell? ⟨g,1,none⟩=some (.slice loA lo.length loc)/\U.cell? ⟨g,2,none⟩=some (.slice eqA eq.length eqc)/\U.cell? ⟨g,3,none⟩=some (.slice aA au.length ac)/\U.cell? ⟨g,4,none⟩=some (.slice ulA ul.length ulc)/\U.cell? ⟨g,5,none⟩=some (.slice utA ut.length utc)/\U.cell? ⟨g+1,0,none⟩=some (.string nm')/\U.cell? ⟨g+1,1,none⟩=some (.slice loA' lo'.length loc')/\U.cell? ⟨g+1,2,none⟩=some (.slice eqA' eq'.length eqc')/\U.cell? ⟨g+1,3,none⟩=some (.slice aA' au'.length ac')/\U.cell? ⟨g+1,4,none⟩=some (.slice ulA' ul'.length ulc')/\U.cell? ⟨g+1,5,none⟩=some (.slice utA' ut'.length utc')/\Le (g+1) U/\Le (g+1+1) U):=by
  refine⟨_,rfl,iR,fun U j=>?_⟩;have I:=((jC w 184 #[nm,.slice loA lo.length loc,.slice eqA eq.length eqc,.slice aA au.length ac,.slice ulA ul.length ulc,.slice utA ut.length utc]).alloc (.cells #[nm',.slice loA' lo'.length loc',.slice eqA' eq'.length eqc',.slice aA' au'.length ac',.slice ulA' ul'.length ulc',.slice utA' ut'.length utc'] 184)).after (w':=U);have o:=(AO (w:=w.alloc (.cells #[nm,.slice loA lo.length loc,.slice eqA eq.length eqc,.slice aA au.length ac,.slice ulA ul.length ulc,.slice utA ut.length utc] 184)) (iH _ _) 184 #[nm',.slice loA' lo'.length loc',.slice eqA' eq'.length eqc',.slice aA' au'.length ac',.slice ulA' ul'.length ulc',.slice utA' ut'.length utc']).after (w':=U);rw[hg]at I o;exact⟨(I.cell 0).trans rfl,(I.cell 1).trans rfl,(I.cell 2).trans rfl,(I.cell 3).trans rfl,(I.cell 4).trans rfl,(I.cell 5).trans rfl,(o.cell 0).trans rfl,(o.cell 1).trans rfl,(o.cell 2).trans rfl,(o.cell 3).trans rfl,(o.cell 4).trans rfl,(o.cell 5).trans rfl,I.is_le,o.is_le⟩
 cases q0 with
 |false=>
  clear HK a2 ai hg;go_in;go_wp2;go_ret;exact⟨iK (by rw[HV.out]<;>simp),iR⟩
 |true=>
 obtain⟨k0,k1,k2,k3,k4,k5,m0,m1,m2,m3,m4,m5,kl,ml⟩:=HK W2 (iq _);go_in;go_wp2_with fail;refine (ag W2 (ij aft a2)).mono ?_;rintro e w4 ⟨rfl,aa⟩;have d1:=ij a2 aa;have b1:=ij (iq W2) aa;obtain⟨k0,k1,k2,k3,k4,k5,m0,m1,m2,m3,m4,m5,kl,ml⟩:=HK w4 b1;cases q1 with
 |false=>
  go_wp2;go_ret;exact⟨iK (by rw[HV.out]<;>simp),d1⟩
 |true=>
 go_wp2_with fail;refine (af w4 (ij aft d1)).mono ?_;rintro e w5 ⟨rfl,a'⟩;have d2:=ij d1 a';have b2:=ij b1 a';obtain⟨k0,k1,k2,k3,k4,k5,m0,m1,m2,m3,m4,m5,kl,ml⟩:=HK w5 b2;cases q2 with
 |false=>
  go_wp2;go_ret;exact⟨iK (by rw[HV.out]<;>simp),d2⟩
 |true=>
 go_wp2_with fail;refine (ae w5 (ij aft d2)).mono ?_;rintro e w6 ⟨rfl,a_⟩;have d3:=ij d2 a_;have b3:=ij b2 a_;obtain⟨k0,k1,k2,k3,k4,k5,m0,m1,m2,m3,m4,m5,kl,ml⟩:=HK w6 b3;cases q3 with
 |false=>
  go_wp2;go_ret;exact⟨iK (by rw[HV.out]<;>simp),d3⟩
 |true=>
 go_wp2_with fail;refine (ad w6 (ij aft d3)).mono ?_;rintro e w7 ⟨rfl,a8⟩;have d4:=ij d3 a8;have b4:=ij b3 a8;obtain⟨k0,k1,k2,k3,k4,k5,m0,m1,m2,m3,m4,m5,kl,ml⟩:=HK w7 b4;cases q4 with
 |false=>
  go_wp2;go_ret;exact⟨iK (by rw[HV.out]<;>simp),d4⟩
 |true=>
 go_wp2_with fail;refine (ab w7 (ij aft d4)).mono ?_;rintro e w8 ⟨rfl,aj⟩;have d5:=ij d4 aj;go_wp2;go_ret;exact⟨iK (by rw[HV.out]<;>simp),d5⟩
theorem Hi {w0:World} {zA:Option Addr} {zc:Nat} {zl:List StT} {zA':Option Addr} {zc':Nat} {zl':List StT} (hA:∀U:World,ik w0 U->Calls prog 95 #[.slice zA zl.length zc,.slice zA' zl'.length zc',.func (.func 96) #[] #[]] U fun e w'=>e=.returned (.bool (iU mw zl zl'))/\ik U w') (w:World) (aft:ik w0 w) :
  Calls prog 55 #[.agg #[.slice zA zl.length zc],.agg #[.slice zA' zl'.length zc']] w fun e w'=>e=.returned (.bool (lE ⟨zA,zc,zl⟩ ⟨zA',zc',zl'⟩))/\ik w w':=by
 have o:Hid (∀U:World,ik w0 U->Calls prog 95 #[.slice zA zl.length zc,.slice zA' zl'.length zc',.func (.func 96) #[] #[]] U fun e w'=>e=.returned (.bool (iU mw zl zl'))/\ik U w'):=iy fun U hU=>hA U hU
 obtain⟨q0,j⟩:=jt ((iU mw zl zl'));have HV:Hid (lE ⟨zA,zc,zl⟩ ⟨zA',zc',zl'⟩=(q0)):=by
  show _=_
  rw[<- j];exact KW _ _ _ _ _ _
 rw[j]at o;obtain⟨g,hg⟩:=jt (w.heap.size);obtain⟨W2,a1,a2,HK⟩:∃W,(w.alloc (.cells #[.slice zA zl.length zc] 131)).alloc (.cells #[.slice zA' zl'.length zc'] 131)=W/\ik w W/\Hid (∀U:World,ik W U->U.cell? g=some (.slice zA zl.length zc)/\U.cell? ⟨g+1,0,none⟩=some (.slice zA' zl'.length zc')/\Le (g+1) U/\Le (g+1+1) U):=by
  refine⟨_,rfl,iR,fun U hU=>?_⟩;have J:=((jC w 131 #[.slice zA zl.length zc]).alloc (.cells #[.slice zA' zl'.length zc'] 131)).after (w':=U);have I:=(AO (w:=w.alloc (.cells #[.slice zA zl.length zc] 131)) (iH _ _) 131 #[.slice zA' zl'.length zc']).after (w':=U);rw[hg]at J I;exact⟨(J.cell 0).trans rfl,(I.cell 0).trans rfl,J.is_le,I.is_le⟩
 obtain⟨k0,m0,kl,ml⟩:=HK W2 (iq _);go_in;go_wp2_with fail;refine (o W2 (ij aft a2)).mono ?_;rintro e w3 ⟨rfl,R⟩;have d0:=ij a2 R;go_wp2;go_ret;exact⟨iK (by rw[HV.out]<;>simp),d0⟩
mutual
def StT.sz:StT->Nat
 |.mk _ _ _ _ _ a _ _=>AuT.Oj a+1
def StT.Oj:List StT->Nat
 |[]=>0
 |x::l=>x.sz+StT.Oj l
def AuT.sz:AuT->Nat
 |.mk _ _ l=>StT.Oj l+1
def AuT.Oj:List AuT->Nat
 |[]=>0
 |x::l=>x.sz+AuT.Oj l
end
theorem StT.zO:∀{l:List StT} {i:Nat} {x:StT},l[i]?=some x->x.sz<=StT.Oj l
 |[],i,x,h=>by simp at h
 |a::l,0,x,h=>by simp at h;subst h;rw[StT.Oj];omega
 |a::l,i+1,x,h=>by have:=StT.zO (l:=l) (i:=i) (x:=x) (by simpa using h);rw[StT.Oj];omega
theorem AuT.zO:∀{l:List AuT} {i:Nat} {x:AuT},l[i]?=some x->x.sz<=AuT.Oj l
 |[],i,x,h=>by simp at h
 |a::l,0,x,h=>by simp at h;subst h;rw[AuT.Oj];omega
 |a::l,i+1,x,h=>by have:=AuT.zO (l:=l) (i:=i) (x:=x) (by simpa using h);rw[AuT.Oj];omega
theorem JG (N:Nat):∀(a b:AuT) (w0:World),a.sz<=N->zS S w0 a->zS S w0 b->∀U,ik w0 U ->
  Calls prog 55 #[Eg a,Eg b] U fun e w'=>e=.returned (.bool (lE a b))/\ik U w':=by
 induction N with
 |zero=>
  intro a b w0 I;obtain⟨A,c,l⟩:=a;rw[AuT.sz]at I;omega
 |succ N ih=>
 intro a b w0 I ha hb U j;obtain⟨A,c,l⟩:=a;obtain⟨A',c',l'⟩:=b;rw[AuT.sz]at I;refine Hi (w0:=w0) ?_ U j;intro U j;refine Q0 ha.rows hb.rows U j ?_;intro i x y o h2 U j;obtain⟨_,_,R⟩:=ha.rows.elem (show _ from o);obtain⟨_,_,J⟩:=hb.rows.elem (show _ from h2);have hm:=StT.zO o;obtain⟨nm,⟨al,ak,lo⟩,⟨ar,aq,eq⟩,aA,ac,au,⟨ah,ag,ul⟩,⟨ae,ad,ut⟩⟩:=x;obtain⟨aj,⟨a',a_,an⟩,⟨ab,aa,av⟩,ay,ax,aw,⟨a8,a7,ai⟩,⟨a6,a1,af⟩⟩:=y;obtain⟨_,e1,e2,e3,e4,e5⟩:=tY.parts R.2;obtain⟨_,f1,f2,f3,f4,f5⟩:=tY.parts J.2;rw[StT.sz]at hm;refine EP e1 f1 e2 f2 e3 f3 e4 f4 ?_ U j;intro U j;refine M7 e5 f5 U j ?_;intro i x y o h2 U j;obtain⟨_,_,R⟩:=e5.elem (show _ from o);obtain⟨_,_,J⟩:=f5.elem (show _ from h2);have ao:=AuT.zO o;exact ih x y w0 (by omega) R.2 J.2 U j
theorem QE {w0:World} {A1 B1:Option Addr} {c1 d1:Nat} {xl yl:List AuT} (x:ir 1 (xM S) w0 ⟨A1,c1,xl⟩) (y:ir 1 (xM S) w0 ⟨B1,d1,yl⟩) (w:World) (aft:ik w0 w) :
  Calls prog 54 #[.slice A1 xl.length c1,.slice B1 yl.length d1,.func (.func 55) #[] #[]] w fun e w'=>e=.returned (.bool (iU lE xl yl))/\ik w w':=
 M7 x y w aft fun i a b h1 h2 U hU=>by
  obtain⟨_,_,h3⟩:=x.elem h1;obtain⟨_,_,h4⟩:=y.elem h2;exact JG _ a b w0 (js _) h3.2 h4.2 U hU
theorem FI {w0:World} {nm nm':ByteArray} {inA:Option Addr} {inc:Nat} {in_:List iO} {inA':Option Addr} {inc':Nat} {in_':List iO} {ouA:Option Addr} {ouc:Nat} {ou:List iO} {ouA':Option Addr} {ouc':Nat} {ou':List iO} {loA:Option Addr} {loc:Nat} {lo:List iO} {loA':Option Addr} {loc':Nat} {lo':List iO} {eqA:Option Addr} {eqc:Nat} {eq:List oX} {eqA':Option Addr} {eqc':Nat} {eq':List oX} {auA:Option Addr} {auc:Nat} {au:List AuT} {auA':Option Addr} {auc':Nat} {au':List AuT} {asA:Option Addr} {asc:Nat} {as_:List Tx} {asA':Option Addr} {asc':Nat} {as_':List Tx} {enA:Option Addr} {enc:Nat} {en_:List Tx} {enA':Option Addr} {enc':Nat} {en_':List Tx} (hin_:ir 3 jG w0 ⟨inA,inc,in_⟩) (hin_':ir 3 jG w0 ⟨inA',inc',in_'⟩) (hou:ir 3 jG w0 ⟨ouA,ouc,ou⟩) (hou':ir 3 jG w0 ⟨ouA',ouc',ou'⟩) (hlo:ir 3 jG w0 ⟨loA,loc,lo⟩) (hlo':ir 3 jG w0 ⟨loA',loc',lo'⟩) (heq:ir 7 (xv S) w0 ⟨eqA,eqc,eq⟩) (heq':ir 7 (xv S) w0 ⟨eqA',eqc',eq'⟩) (hau:ir 1 (xM S) w0 ⟨auA,auc,au⟩) (hau':ir 1 (xM S) w0 ⟨auA',auc',au'⟩) (has_:ir 6 (Bu S) w0 ⟨asA,asc,as_⟩) (has_':ir 6 (Bu S) w0 ⟨asA',asc',as_'⟩) (hen_:ir 6 (Bu S) w0 ⟨enA,enc,en_⟩) (hen_':ir 6 (Bu S) w0 ⟨enA',enc',en_'⟩) (w:World) (aft:ik w0 w) :
  Calls prog 24 #[.agg #[nm,.slice inA in_.length inc,.slice ouA ou.length ouc,.slice loA lo.length loc,.slice eqA eq.length eqc,.slice auA au.length auc,.slice asA as_.length asc,.slice enA en_.length enc],.agg #[nm',.slice inA' in_'.length inc',.slice ouA' ou'.length ouc',.slice loA' lo'.length loc',.slice eqA' eq'.length eqc',.slice auA' au'.length auc',.slice asA' as_'.length asc',.slice enA' en_'.length enc']] w fun e w'=>e=.returned (.bool (nu ⟨nm,⟨inA,inc,in_⟩,⟨ouA,ouc,ou⟩,⟨loA,loc,lo⟩,⟨eqA,eqc,eq⟩,⟨auA,auc,au⟩,⟨asA,asc,as_⟩,⟨enA,enc,en_⟩⟩ ⟨nm',⟨inA',inc',in_'⟩,⟨ouA',ouc',ou'⟩,⟨loA',loc',lo'⟩,⟨eqA',eqc',eq'⟩,⟨auA',auc',au'⟩,⟨asA',asc',as_'⟩,⟨enA',enc',en_'⟩⟩))/\ik w w':=by
 have aq:Hid (∀U:World,ik w0 U->Calls prog 50 #[.slice inA in_.length inc,.slice inA' in_'.length inc',.func (.func 51) #[] #[]] U fun e w'=>e=.returned (.bool (iU jO in_ in_'))/\ik U w'):=iy fun U j=>yM hin_ hin_' U j
 have ao:Hid (∀U:World,ik w0 U->Calls prog 50 #[.slice ouA ou.length ouc,.slice ouA' ou'.length ouc',.func (.func 51) #[] #[]] U fun e w'=>e=.returned (.bool (iU jO ou ou'))/\ik U w'):=iy fun U j=>yM hou hou' U j
 have an:Hid (∀U:World,ik w0 U->Calls prog 50 #[.slice loA lo.length loc,.slice loA' lo'.length loc',.func (.func 51) #[] #[]] U fun e w'=>e=.returned (.bool (iU jO lo lo'))/\ik U w'):=iy fun U j=>yM hlo hlo' U j
 have al:Hid (∀U:World,ik w0 U->Calls prog 52 #[.slice eqA eq.length eqc,.slice eqA' eq'.length eqc',.func (.func 53) #[] #[]] U fun e w'=>e=.returned (.bool (iU mx eq eq'))/\ik U w'):=iy fun U j=>NN heq heq' U j
 have ak:Hid (∀U:World,ik w0 U->Calls prog 54 #[.slice auA au.length auc,.slice auA' au'.length auc',.func (.func 55) #[] #[]] U fun e w'=>e=.returned (.bool (iU lE au au'))/\ik U w'):=iy fun U j=>QE hau hau' U j
 have aj:Hid (∀U:World,ik w0 U->Calls prog 56 #[.slice asA as_.length asc,.slice asA' as_'.length asc',.func (.func 57) #[] #[]] U fun e w'=>e=.returned (.bool (iU Tx.same as_ as_'))/\ik U w'):=iy fun U j=>MP has_ has_' U j
 have ai:Hid (∀U:World,ik w0 U->Calls prog 56 #[.slice enA en_.length enc,.slice enA' en_'.length enc',.func (.func 57) #[] #[]] U fun e w'=>e=.returned (.bool (iU Tx.same en_ en_'))/\ik U w'):=iy fun U j=>MP hen_ hen_' U j
 obtain⟨q0,ar⟩:=jt ((nm.toList==nm'.toList));obtain⟨q1,aa⟩:=jt ((iU jO in_ in_'));obtain⟨q2,a'⟩:=jt ((iU jO ou ou'));obtain⟨q3,a_⟩:=jt ((iU jO lo lo'));obtain⟨q4,a8⟩:=jt ((iU mx eq eq'));obtain⟨q5,a7⟩:=jt ((iU lE au au'));obtain⟨q6,a6⟩:=jt ((iU Tx.same as_ as_'));obtain⟨q7,a1⟩:=jt ((iU Tx.same en_ en_'));have J:Hid (nu ⟨nm,⟨inA,inc,in_⟩,⟨ouA,ouc,ou⟩,⟨loA,loc,lo⟩,⟨eqA,eqc,eq⟩,⟨auA,auc,au⟩,⟨asA,asc,as_⟩,⟨enA,enc,en_⟩⟩ ⟨nm',⟨inA',inc',in_'⟩,⟨ouA',ouc',ou'⟩,⟨loA',loc',lo'⟩,⟨eqA',eqc',eq'⟩,⟨auA',auc',au'⟩,⟨asA',asc',as_'⟩,⟨enA',enc',en_'⟩⟩=(q0&&(q1&&(q2&&(q3&&(q4&&(q5&&(q6&&(q7))))))))):=by
  show _=_
  rw[<- ar,<- aa,<- a',<- a_,<- a8,<- a7,<- a6,<- a1];rfl
 rw[aa]at aq;rw[a']at ao;rw[a_]at an;rw[a8]at al;rw[a7]at ak;rw[a6]at aj;rw[a1]at ai;clear aa a' a_ a8 a7 a6 a1 hin_ hin_' hou hou' hlo hlo' heq heq' hau hau' has_ has_' hen_ hen_';obtain⟨g,hg⟩:=jt (w.heap.size);obtain⟨W2,av,a2,R⟩:∃W,(w.alloc (.cells #[nm,.slice inA in_.length inc,.slice ouA ou.length ouc,.slice loA lo.length loc,.slice eqA eq.length eqc,.slice auA au.length auc,.slice asA as_.length asc,.slice enA en_.length enc] 65)).alloc (.cells #[nm',.slice inA' in_'.length inc',.slice ouA' ou'.length ouc',.slice loA' lo'.length loc',.slice eqA' eq'.length eqc',.slice auA' au'.length auc',.slice asA' as_'.length asc',.slice enA' en_'.length enc'] 65)=W/\ik w W/\Hid (∀U:World,ik W U->U.cell? g=some (.string nm)/\U.cell? ⟨g,1,none⟩=some (.slice inA in_.length inc)/\U.cell? ⟨g,2,none⟩=some (.slice ouA ou.length ouc)/\U.cell? ⟨g,3,none⟩=some (.slice loA lo.length loc)/\U.cell? ⟨g,4,none⟩=some (.slice eqA eq.length eqc)/\U.cell? ⟨g,5,none⟩=some (.slice auA au.length auc)/\U.cell? ⟨g,6,none⟩=some (.slice asA as_.length asc)/\U.cell? ⟨g,7,none⟩=some (.slice enA en_.length enc)/\U.cell? ⟨g+1,0,none⟩=some (.string nm')/\U.cell? ⟨g+1,1,none⟩=some (.slice inA' in_'.length inc')/\U.cell? ⟨g+1,2,none⟩=some (.slice ouA' ou'.length ouc')/\U.cell? ⟨g+1,3,none⟩=some (.slice loA' lo'.length loc')/\U.cell? ⟨g+1,4,none⟩=some (.slice eqA' eq'.length eqc')/\U.cell? ⟨g+1,5,none⟩=some (.slice auA' au'.length auc')/\U.cell? ⟨g+1,6,none⟩=some (.slice asA' as_'.length asc')/\U.cell? ⟨g+1,7,none⟩=some (.slice enA' en_'.length enc')/\Le (g+1) U/\Le (g+1+1) U):=by
  refine⟨_,rfl,iR,fun U j=>?_⟩;have I:=((jC w 65 #[nm,.slice inA in_.length inc,.slice ouA ou.length ouc,.slice loA lo.length loc,.slice eqA eq.length eqc,.slice auA au.length auc,.slice asA as_.length asc,.slice enA en_.length enc]).alloc (.cells #[nm',.slice inA' in_'.length inc',.slice ouA' ou'.length ouc',.slice loA' lo'.length loc',.slice eqA' eq'.length eqc',.slice auA' au'.length auc',.slice asA' as_'.length asc',.slice enA' en_'.length enc'] 65)).after (w':=U);have o:=(AO (w:=w.alloc (.cells #[nm,.slice inA in_.length inc,.slice ouA ou.length ouc,.slice loA lo.length loc,.slice eqA eq.length eqc,.slice auA au.length auc,.slice asA as_.length asc,.slice enA en_.length enc] 65)) (iH _ _) 65 #[nm',.slice inA' in_'.length inc',.slice ouA' ou'.length ouc',.slice loA' lo'.length loc',.slice eqA' eq'.length eqc',.slice auA' au'.length auc',.slice asA' as_'.length asc',.slice enA' en_'.length enc']).after (w':=U);rw[hg]at I o;exact⟨(I.cell 0).trans rfl,(I.cell 1).trans rfl,(I.cell 2).trans rfl,(I.cell 3).trans rfl,(I.cell 4).trans rfl,(I.cell 5).trans rfl,(I.cell 6).trans rfl,(I.cell 7).trans rfl,(o.cell 0).trans rfl,(o.cell 1).trans rfl,(o.cell 2).trans rfl,(o.cell 3).trans rfl,(o.cell 4).trans rfl,(o.cell 5).trans rfl,(o.cell 6).trans rfl,(o.cell 7).trans rfl,I.is_le,o.is_le⟩
 cases q0 with
 |false=>
  clear R a2 av hg;go_in;go_wp2;go_ret;exact⟨iK (by rw[J.out]<;>simp),iR⟩
 |true=>
 obtain⟨k0,k1,k2,k3,k4,k5,k6,k7,m0,m1,m2,m3,m4,m5,m6,m7,kl,ml⟩:=R W2 (iq _);go_in;go_wp2_with fail;refine (aq W2 (ij aft a2)).mono ?_;rintro e w4 ⟨rfl,ah⟩;have d1:=ij a2 ah;have b1:=ij (iq W2) ah;obtain⟨k0,k1,k2,k3,k4,k5,k6,k7,m0,m1,m2,m3,m4,m5,m6,m7,kl,ml⟩:=R w4 b1;cases q1 with
 |false=>
  go_wp2;go_ret;exact⟨iK (by rw[J.out]<;>simp),d1⟩
 |true=>
 go_wp2_with fail;refine (ao w4 (ij aft d1)).mono ?_;rintro e w5 ⟨rfl,ag⟩;have d2:=ij d1 ag;have b2:=ij b1 ag;obtain⟨k0,k1,k2,k3,k4,k5,k6,k7,m0,m1,m2,m3,m4,m5,m6,m7,kl,ml⟩:=R w5 b2;cases q2 with
 |false=>
  go_wp2;go_ret;exact⟨iK (by rw[J.out]<;>simp),d2⟩
 |true=>
 go_wp2_with fail;refine (an w5 (ij aft d2)).mono ?_;rintro e w6 ⟨rfl,af⟩;have d3:=ij d2 af;have b3:=ij b2 af;obtain⟨k0,k1,k2,k3,k4,k5,k6,k7,m0,m1,m2,m3,m4,m5,m6,m7,kl,ml⟩:=R w6 b3;cases q3 with
 |false=>
  go_wp2;go_ret;exact⟨iK (by rw[J.out]<;>simp),d3⟩
 |true=>
 go_wp2_with fail;refine (al w6 (ij aft d3)).mono ?_;rintro e w7 ⟨rfl,ae⟩;have d4:=ij d3 ae;have b4:=ij b3 ae;obtain⟨k0,k1,k2,k3,k4,k5,k6,k7,m0,m1,m2,m3,m4,m5,m6,m7,kl,ml⟩:=R w7 b4;cases q4 with
 |false=>
  go_wp2;go_ret;exact⟨iK (by rw[J.out]<;>simp),d4⟩
 |true=>
 go_wp2_with fail;refine (ak w7 (ij aft d4)).mono ?_;rintro e w8 ⟨rfl,ad⟩;have d5:=ij d4 ad;have b5:=ij b4 ad;obtain⟨k0,k1,k2,k3,k4,k5,k6,k7,m0,m1,m2,m3,m4,m5,m6,m7,kl,ml⟩:=R w8 b5;cases q5 with
 |false=>
  go_wp2;go_ret;exact⟨iK (by rw[J.out]<;>simp),d5⟩
 |true=>
 go_wp2_with fail;refine (aj w8 (ij aft d5)).mono ?_;rintro e w9 ⟨rfl,ab⟩;have d6:=ij d5 ab;have b6:=ij b5 ab;obtain⟨k0,k1,k2,k3,k4,k5,k6,k7,m0,m1,m2,m3,m4,m5,m6,m7,kl,ml⟩:=R w9 b6;cases q6 with
 |false=>
  go_wp2;go_ret;exact⟨iK (by rw[J.out]<;>simp),d6⟩
 |true=>
 go_wp2_with fail;refine (ai w9 (ij aft d6)).mono ?_;rintro e ax ⟨rfl,aw⟩;have d7:=ij d6 aw;go_wp2;go_ret;exact⟨iK (by rw[J.out]<;>simp),d7⟩
theorem QG {w0:World} {A1 B1:Option Addr} {c1 d1:Nat} {xl yl:List nh} (x:ir 8 (Gy S) w0 ⟨A1,c1,xl⟩) (y:ir 8 (Gy S) w0 ⟨B1,d1,yl⟩) (w:World) (aft:ik w0 w) :
  Calls prog 23 #[.slice A1 xl.length c1,.slice B1 yl.length d1,.func (.func 24) #[] #[]] w fun e w'=>e=.returned (.bool (iU nu xl yl))/\ik w w':=
 QU x y w aft fun i a b h1 h2 U hU=>by
  obtain⟨_,_,h3⟩:=x.elem h1;obtain⟨_,_,h4⟩:=y.elem h2;obtain⟨nm,⟨inA,inc,in_⟩,⟨ouA,ouc,ou⟩,⟨loA,loc,lo⟩,⟨eqA,eqc,eq⟩,⟨auA,auc,au⟩,⟨asA,asc,as_⟩,⟨enA,enc,en_⟩⟩:=a;obtain⟨nm',⟨inA',inc',in_'⟩,⟨ouA',ouc',ou'⟩,⟨loA',loc',lo'⟩,⟨eqA',eqc',eq'⟩,⟨auA',auc',au'⟩,⟨asA',asc',as_'⟩,⟨enA',enc',en_'⟩⟩:=b;exact FI h3.r1 h4.r1 h3.r2 h4.r2 h3.r3 h4.r3 h3.r4 h4.r4 h3.r5 h4.r5 h3.r6 h4.r6 h3.r7 h4.r7 U hU
theorem Dy {w0:World} {eA:Option Addr} {ec:Nat} {el:List iW} {eA':Option Addr} {ec':Nat} {el':List iW} {nA:Option Addr} {nc:Nat} {nl:List nh} {nA':Option Addr} {nc':Nat} {nl':List nh} (he:ir 2 sM w0 ⟨eA,ec,el⟩) (he':ir 2 sM w0 ⟨eA',ec',el'⟩) (hn:ir 8 (Gy S) w0 ⟨nA,nc,nl⟩) (hn':ir 8 (Gy S) w0 ⟨nA',nc',nl'⟩) (w:World) (aft:ik w0 w) :
  Calls prog 7 #[.agg #[.slice eA el.length ec,.slice nA nl.length nc],.agg #[.slice eA' el'.length ec',.slice nA' nl'.length nc']] w fun e w'=>e=.returned (.bool (FQ ⟨⟨eA,ec,el⟩,⟨nA,nc,nl⟩⟩ ⟨⟨eA',ec',el'⟩,⟨nA',nc',nl'⟩⟩))/\ik w w':=by
 have R:Hid (∀U:World,ik w0 U->Calls prog 21 #[.slice eA el.length ec,.slice eA' el'.length ec',.func (.func 22) #[] #[]] U fun e w'=>e=.returned (.bool (iU nx el el'))/\ik U w'):=iy fun U hU=>M3 he he' U hU
 have J:Hid (∀U:World,ik w0 U->Calls prog 23 #[.slice nA nl.length nc,.slice nA' nl'.length nc',.func (.func 24) #[] #[]] U fun e w'=>e=.returned (.bool (iU nu nl nl'))/\ik U w'):=iy fun U hU=>QG hn hn' U hU
 obtain⟨q0,o⟩:=jt ((iU nx el el'));obtain⟨q1,j⟩:=jt ((iU nu nl nl'));have HV:Hid (FQ ⟨⟨eA,ec,el⟩,⟨nA,nc,nl⟩⟩ ⟨⟨eA',ec',el'⟩,⟨nA',nc',nl'⟩⟩=(q0&&(q1))):=by
  show _=_
  rw[<- o,<- j];rfl
 rw[o]at R;rw[j]at J;obtain⟨g,hg⟩:=jt (w.heap.size);obtain⟨W2,a6,a2,HK⟩:∃W,(w.alloc (.cells #[.slice eA el.length ec,.slice nA nl.length nc] 25)).alloc (.cells #[.slice eA' el'.length ec',.slice nA' nl'.length nc'] 25)=W/\ik w W/\Hid (∀U:World,ik W U->U.cell? g=some (.slice eA el.length ec)/\U.cell? ⟨g,1,none⟩=some (.slice nA nl.length nc)/\U.cell? ⟨g+1,0,none⟩=some (.slice eA' el'.length ec')/\U.cell? ⟨g+1,1,none⟩=some (.slice nA' nl'.length nc')/\Le (g+1) U/\Le (g+1+1) U):=by
  refine⟨_,rfl,iR,fun U hU=>?_⟩;have f1:=((jC w 25 #[.slice eA el.length ec,.slice nA nl.length nc]).alloc (.cells #[.slice eA' el'.length ec',.slice nA' nl'.length nc'] 25)).after (w':=U);have f2:=(AO (w:=w.alloc (.cells #[.slice eA el.length ec,.slice nA nl.length nc] 25)) (iH _ _) 25 #[.slice eA' el'.length ec',.slice nA' nl'.length nc']).after (w':=U);rw[hg]at f1 f2;exact⟨(f1.cell 0).trans rfl,(f1.cell 1).trans rfl,(f2.cell 0).trans rfl,(f2.cell 1).trans rfl,f1.is_le,f2.is_le⟩
 obtain⟨k0,k1,m0,m1,kl,ml⟩:=HK W2 (iq _);go_in;go_wp2_with fail;refine (R W2 (ij aft a2)).mono ?_;rintro e w3 ⟨rfl,I⟩;have d0:=ij a2 I;have b0:=ij (iq W2) I;obtain⟨k0,k1,m0,m1,kl,ml⟩:=HK w3 b0;cases q0 with
 |false=>
  go_wp2;go_ret;exact⟨iK (by rw[HV.out]<;>simp),d0⟩
 |true=>
 go_wp2_with fail;refine (J w3 (ij aft d0)).mono ?_;rintro e w4 ⟨rfl,a1⟩;have d1:=ij d0 a1;go_wp2;go_ret;exact⟨iK (by rw[HV.out]<;>simp),d1⟩
end
end Go.Proofs.YtnigblndonocfaaGreatDoor
