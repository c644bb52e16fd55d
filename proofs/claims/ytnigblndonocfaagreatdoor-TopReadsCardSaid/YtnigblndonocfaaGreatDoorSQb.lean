/- A part of the proof. -/
import Derived.Test.YtnigblndonocfaaGreatDoorSQa
set_option linter.unusedVariables false
set_option linter.unusedSimpArgs false
namespace Go.Proofs.YtnigblndonocfaaGreatDoor
set_option maxRecDepth 100000
set_option maxHeartbeats 1600000
open Go.Proofs.Tryz
open Go.RowKit Go.BigFrame
section
variable {S:Prop}
def JP:iW->Value
 |⟨nm,⟨tA,tc,tl⟩⟩=>.agg #[nm,.slice tA tl.length tc]
def Br:iO->Value
 |⟨nm,ty,⟨cA,cc,cl⟩⟩=>.agg #[nm,ty,.slice cA cl.length cc]
def Kt:oX->Value
 |⟨⟨lA,lc,ll⟩,⟨k,o,t,v,s,A,c,xs⟩⟩=>.agg #[.slice lA ll.length lc,k,o,t,v,s,.slice A xs.length c]
def JO:ma->Value
 |⟨⟨k,o,t,v,s,A,c,xs⟩,ds,re⟩=>.agg #[k,o,t,v,s,.slice A xs.length c,ds,.bool re]
def KM:StT->Value
 |⟨nm,⟨loA,loc,lo⟩,⟨eqA,eqc,eq⟩,aA,ac,au,⟨ulA,ulc,ul⟩,⟨utA,utc,ut⟩⟩=>.agg #[nm,.slice loA lo.length loc,.slice eqA eq.length eqc,.slice aA au.length ac,.slice ulA ul.length ulc,.slice utA ut.length utc]
def Eg:AuT->Value
 |⟨zA,zc,zl⟩=>.agg #[.slice zA zl.length zc]
def Kj:nh->Value
 |⟨nm,⟨inA,inc,in_⟩,⟨ouA,ouc,ou⟩,⟨loA,loc,lo⟩,⟨eqA,eqc,eq⟩,⟨auA,auc,au⟩,⟨asA,asc,as_⟩,⟨enA,enc,en_⟩⟩=>.agg #[nm,.slice inA in_.length inc,.slice ouA ou.length ouc,.slice loA lo.length loc,.slice eqA eq.length eqc,.slice auA au.length auc,.slice asA as_.length asc,.slice enA en_.length enc]
def JX:Tx->Value
 |⟨k,o,t,v,s,A,c,xs⟩=>.agg #[k,o,t,v,s,.slice A xs.length c]
theorem Re {w0:World} {A1 B1:Option Addr} {c1 d1:Nat} {xl yl:List iW} (x:ir 2 sM w0 ⟨A1,c1,xl⟩) (y:ir 2 sM w0 ⟨B1,d1,yl⟩) (w:World) (aft:ik w0 w)
  (hS:∀(i:Nat) (a b:iW),xl[i]?=some a->yl[i]?=some b->∀U:World,ik w0 U->Calls prog 22 #[JP a,JP b] U fun e w'=>e=.returned (.bool (nx a b))/\ik U w') :
  Calls prog 21 #[.slice A1 xl.length c1,.slice B1 yl.length d1,.func (.func 22) #[] #[]] w fun e w'=>e=.returned (.bool (iU nx xl yl))/\ik w w':=by
 have XX:=iy x;have YY:=iy y;replace hS:=iy hS;have a':=x.len;have a_:=y.len;simp only[]at a' a_;obtain⟨n,hn⟩:=jt (xl.length);obtain⟨m,hm⟩:=jt (yl.length);have HV:Hid (iU nx xl yl=(decide (n=m)&&kW nx xl yl)):=iy (by unfold iU;rw[hn,hm]);rw[hn]at a'⊢;rw[hm]at a_⊢;by_cases aa:n=m
 ·subst aa
  go_in;go_wp2_with fail;go_loopw [17] (fun i wr=>∃j:Nat,j<=n/\i=.int .i64 (j:Nat)/\Hid (kW nx (xl.take j) (yl.take j)=true)/\ik w wr) (fun i _=>n-(intOf i).toNat)
  case atStart=>exact⟨0,iu,rfl,iy (by simp[kW]),iR⟩
  case round=>
  obtain⟨j,hj,rfl,HJ,ar⟩:=hrel;have a8:=ij aft ar;by_cases ad:j<n
  ·have ae:(j:Int)<(n:Int):=iu
   obtain⟨b,p,u1,rfl,ag,J,hP⟩:=(XX.enums wr (k:=a8)).part (i:=j) (by show j<xl.length;omega);obtain⟨b2,p2,u2,rfl,af,I,hQ⟩:=(YY.enums wr (k:=a8)).part (i:=j) (by show j<yl.length;omega);simp only[]at J I;have HT:Hid (kW nx (xl.take (j+1)) (yl.take (j+1))=nx u1 u2):=iy (by rw[oJ nx J.out I.out,HJ.out,xI]);have HF:Hid (nx u1 u2=false->kW nx xl yl=false):=iy fun h=>nI nx J I h
   have HC:Hid (∀U:World,ik wr U->Calls prog 22 #[JP u1,JP u2] U fun e w'=>e=.returned (.bool (nx u1 u2))/\ik U w'):=iy fun U hU=>hS j _ _ J I U (ij a8 hU)
   obtain⟨nm,⟨tA,tc,tl⟩⟩:=u1;obtain⟨a7,⟨a6,a1,R⟩⟩:=u2;obtain⟨e0,e1⟩:wr.cell? ⟨b,p+j*2,none⟩=some (.string nm)/\wr.cell? ⟨b,p+j*2+1,none⟩=some (.slice tA tl.length tc):=⟨hP.c0,hP.c1⟩;obtain⟨g0,g1⟩:wr.cell? ⟨b2,p2+j*2,none⟩=some (.string a7)/\wr.cell? ⟨b2,p2+j*2+1,none⟩=some (.slice a6 R.length a1):=⟨hQ.c0,hQ.c1⟩;obtain⟨q,hq⟩:=jt (nx ⟨nm,⟨tA,tc,tl⟩⟩ ⟨a7,⟨a6,a1,R⟩⟩);rw[hq]at HC HT HF;replace HC:Hid (∀U:World,ik wr U->Calls prog 22 #[.agg #[nm,.slice tA tl.length tc],.agg #[a7,.slice a6 R.length a1]] U fun e w'=>e=.returned (.bool q)/\ik U w'):=HC;go_wp2_with fail;refine (HC _ iR).mono ?_;rintro e w2 ⟨rfl,a2⟩;have ab:=ij ar (ij iR a2);cases q with
   |true=>
    go_wp2;go_roundw
    case rel=>exact⟨j+1,iu,by go_num,HT,ab⟩
    case measure=>simp only[intOf];omega
   |false=>
   have o:Hid (iU nx xl yl=false):=iy (by rw[HV.out,HF.out rfl,qT]);go_wp2;go_ret;exact⟨iK (by rw[o.out]),ab⟩
  obtain rfl:j=n:=iu;have o:Hid (iU nx xl yl=true):=iy (by
   have h_:=HJ.out;rw[HV.out];rw[<- hn,pf,hn,<- hm,pf]at h_;rw[h_];simp)
  go_wp2;go_ret;exact⟨iK (by rw[o.out]),ar⟩
 have o:Hid (iU nx xl yl=false):=iy (by rw[HV.out,decide_eq_false aa,qu]);go_in;go_wp2;go_ret;exact⟨iK (by rw[o.out]),iR⟩
theorem NX {w0:World} {A1 B1:Option Addr} {c1 d1:Nat} {xl yl:List iO} (x:ir 3 jG w0 ⟨A1,c1,xl⟩) (y:ir 3 jG w0 ⟨B1,d1,yl⟩) (w:World) (aft:ik w0 w)
  (hS:∀(i:Nat) (a b:iO),xl[i]?=some a->yl[i]?=some b->∀U:World,ik w0 U->Calls prog 51 #[Br a,Br b] U fun e w'=>e=.returned (.bool (jO a b))/\ik U w') :
  Calls prog 50 #[.slice A1 xl.length c1,.slice B1 yl.length d1,.func (.func 51) #[] #[]] w fun e w'=>e=.returned (.bool (iU jO xl yl))/\ik w w':=by
 have XX:=iy x;have YY:=iy y;replace hS:=iy hS;have aa:=x.len;have a':=y.len;simp only[]at aa a';obtain⟨n,hn⟩:=jt (xl.length);obtain⟨m,hm⟩:=jt (yl.length);have HV:Hid (iU jO xl yl=(decide (n=m)&&kW jO xl yl)):=iy (by unfold iU;rw[hn,hm]);rw[hn]at aa⊢;rw[hm]at a'⊢;by_cases ab:n=m
 ·subst ab
  go_in;go_wp2_with fail;go_loopw [17] (fun i wr=>∃j:Nat,j<=n/\i=.int .i64 (j:Nat)/\Hid (kW jO (xl.take j) (yl.take j)=true)/\ik w wr) (fun i _=>n-(intOf i).toNat)
  case atStart=>exact⟨0,iu,rfl,iy (by simp[kW]),iR⟩
  case round=>
  obtain⟨j,hj,rfl,HJ,ar⟩:=hrel;have a_:=ij aft ar;by_cases ae:j<n
  ·have af:(j:Int)<(n:Int):=iu
   obtain⟨b,p,u1,rfl,ah,J,hP⟩:=(XX.decls wr (k:=a_)).part (i:=j) (by show j<xl.length;omega);obtain⟨b2,p2,u2,rfl,ag,I,hQ⟩:=(YY.decls wr (k:=a_)).part (i:=j) (by show j<yl.length;omega);simp only[]at J I;have HT:Hid (kW jO (xl.take (j+1)) (yl.take (j+1))=jO u1 u2):=iy (by rw[oJ jO J.out I.out,HJ.out,xI]);have HF:Hid (jO u1 u2=false->kW jO xl yl=false):=iy fun h=>nI jO J I h
   have HC:Hid (∀U:World,ik wr U->Calls prog 51 #[Br u1,Br u2] U fun e w'=>e=.returned (.bool (jO u1 u2))/\ik U w'):=iy fun U hU=>hS j _ _ J I U (ij a_ hU)
   obtain⟨nm,ty,⟨cA,cc,cl⟩⟩:=u1;obtain⟨a1,R,⟨a8,a7,a6⟩⟩:=u2;obtain⟨e0,e1,e2⟩:wr.cell? ⟨b,p+j*3,none⟩=some (.string nm)/\wr.cell? ⟨b,p+j*3+1,none⟩=some (.int .i64 ty)/\wr.cell? ⟨b,p+j*3+2,none⟩=some (.slice cA cl.length cc):=⟨hP.c0,hP.c1,hP.c2⟩;obtain⟨g0,g1,g2⟩:wr.cell? ⟨b2,p2+j*3,none⟩=some (.string a1)/\wr.cell? ⟨b2,p2+j*3+1,none⟩=some (.int .i64 R)/\wr.cell? ⟨b2,p2+j*3+2,none⟩=some (.slice a8 a6.length a7):=⟨hQ.c0,hQ.c1,hQ.c2⟩;obtain⟨q,hq⟩:=jt (jO ⟨nm,ty,⟨cA,cc,cl⟩⟩ ⟨a1,R,⟨a8,a7,a6⟩⟩);rw[hq]at HC HT HF;replace HC:Hid (∀U:World,ik wr U->Calls prog 51 #[.agg #[nm,ty,.slice cA cl.length cc],.agg #[a1,R,.slice a8 a6.length a7]] U fun e w'=>e=.returned (.bool q)/\ik U w'):=HC;go_wp2_with fail;refine (HC _ iR).mono ?_;rintro e w2 ⟨rfl,a2⟩;have ad:=ij ar (ij iR a2);cases q with
   |true=>
    go_wp2;go_roundw
    case rel=>exact⟨j+1,iu,by go_num,HT,ad⟩
    case measure=>simp only[intOf];omega
   |false=>
   have o:Hid (iU jO xl yl=false):=iy (by rw[HV.out,HF.out rfl,qT]);go_wp2;go_ret;exact⟨iK (by rw[o.out]),ad⟩
  obtain rfl:j=n:=iu;have o:Hid (iU jO xl yl=true):=iy (by
   have h_:=HJ.out;rw[HV.out];rw[<- hn,pf,hn,<- hm,pf]at h_;rw[h_];simp)
  go_wp2;go_ret;exact⟨iK (by rw[o.out]),ar⟩
 have o:Hid (iU jO xl yl=false):=iy (by rw[HV.out,decide_eq_false ab,qu]);go_in;go_wp2;go_ret;exact⟨iK (by rw[o.out]),iR⟩
theorem Qt {w0:World} {A1 B1:Option Addr} {c1 d1:Nat} {xl yl:List oX} (x:ir 7 (xv S) w0 ⟨A1,c1,xl⟩) (y:ir 7 (xv S) w0 ⟨B1,d1,yl⟩) (w:World) (aft:ik w0 w)
  (hS:∀(i:Nat) (a b:oX),xl[i]?=some a->yl[i]?=some b->∀U:World,ik w0 U->Calls prog 53 #[Kt a,Kt b] U fun e w'=>e=.returned (.bool (mx a b))/\ik U w') :
  Calls prog 52 #[.slice A1 xl.length c1,.slice B1 yl.length d1,.func (.func 53) #[] #[]] w fun e w'=>e=.returned (.bool (iU mx xl yl))/\ik w w':=by
 have XX:=iy x;have YY:=iy y;replace hS:=iy hS;have aa:=x.len;have a':=y.len;simp only[]at aa a';obtain⟨n,hn⟩:=jt (xl.length);obtain⟨m,hm⟩:=jt (yl.length);have HV:Hid (iU mx xl yl=(decide (n=m)&&kW mx xl yl)):=iy (by unfold iU;rw[hn,hm]);rw[hn]at aa⊢;rw[hm]at a'⊢;by_cases ab:n=m
 ·subst ab
  go_in;go_wp2_with fail;go_loopw [17] (fun i wr=>∃j:Nat,j<=n/\i=.int .i64 (j:Nat)/\Hid (kW mx (xl.take j) (yl.take j)=true)/\ik w wr) (fun i _=>n-(intOf i).toNat)
  case atStart=>exact⟨0,iu,rfl,iy (by simp[kW]),iR⟩
  case round=>
  obtain⟨j,hj,rfl,HJ,ar⟩:=hrel;have a_:=ij aft ar;by_cases ae:j<n
  ·have af:(j:Int)<(n:Int):=iu
   obtain⟨b,p,u1,rfl,ah,R,hP⟩:=(XX.eqs wr (k:=a_)).part (i:=j) (by show j<xl.length;omega);obtain⟨b2,p2,u2,rfl,ag,J,hQ⟩:=(YY.eqs wr (k:=a_)).part (i:=j) (by show j<yl.length;omega);simp only[]at R J;have HT:Hid (kW mx (xl.take (j+1)) (yl.take (j+1))=mx u1 u2):=iy (by rw[oJ mx R.out J.out,HJ.out,xI]);have HF:Hid (mx u1 u2=false->kW mx xl yl=false):=iy fun h=>nI mx R J h
   have HC:Hid (∀U:World,ik wr U->Calls prog 53 #[Kt u1,Kt u2] U fun e w'=>e=.returned (.bool (mx u1 u2))/\ik U w'):=iy fun U hU=>hS j _ _ R J U (ij a_ hU)
   obtain⟨⟨lA,lc,ll⟩,⟨k,o,t,v,s,A,c,xs⟩⟩:=u1;obtain⟨⟨a8,a7,a6⟩,⟨k',o',t',v',s',A',c',a1⟩⟩:=u2;obtain⟨e0,e1,e2,e3,e4,e5,e6⟩:wr.cell? ⟨b,p+j*7,none⟩=some (.slice lA ll.length lc)/\wr.cell? ⟨b,p+j*7+1,none⟩=some (.int .i64 k)/\wr.cell? ⟨b,p+j*7+2,none⟩=some (.int .i64 o)/\wr.cell? ⟨b,p+j*7+3,none⟩=some (.int .i64 t)/\wr.cell? ⟨b,p+j*7+4,none⟩=some (.int .i64 v)/\wr.cell? ⟨b,p+j*7+5,none⟩=some (.string s)/\wr.cell? ⟨b,p+j*7+6,none⟩=some (.slice A xs.length c):=⟨hP.c0,hP.six.c0,hP.six.c1,hP.six.c2,hP.six.c3,hP.six.c4,hP.six.c5⟩;obtain⟨g0,g1,g2,g3,g4,g5,g6⟩:wr.cell? ⟨b2,p2+j*7,none⟩=some (.slice a8 a6.length a7)/\wr.cell? ⟨b2,p2+j*7+1,none⟩=some (.int .i64 k')/\wr.cell? ⟨b2,p2+j*7+2,none⟩=some (.int .i64 o')/\wr.cell? ⟨b2,p2+j*7+3,none⟩=some (.int .i64 t')/\wr.cell? ⟨b2,p2+j*7+4,none⟩=some (.int .i64 v')/\wr.cell? ⟨b2,p2+j*7+5,none⟩=some (.string s')/\wr.cell? ⟨b2,p2+j*7+6,none⟩=some (.slice A' a1.length c'):=⟨hQ.c0,hQ.six.c0,hQ.six.c1,hQ.six.c2,hQ.six.c3,hQ.six.c4,hQ.six.c5⟩;obtain⟨q,hq⟩:=jt (mx ⟨⟨lA,lc,ll⟩,⟨k,o,t,v,s,A,c,xs⟩⟩ ⟨⟨a8,a7,a6⟩,⟨k',o',t',v',s',A',c',a1⟩⟩);rw[hq]at HC HT HF;replace HC:Hid (∀U:World,ik wr U->Calls prog 53 #[.agg #[.slice lA ll.length lc,k,o,t,v,s,.slice A xs.length c],.agg #[.slice a8 a6.length a7,k',o',t',v',s',.slice A' a1.length c']] U fun e w'=>e=.returned (.bool q)/\ik U w'):=HC;go_wp2_with fail;refine (HC _ iR).mono ?_;rintro e w2 ⟨rfl,a2⟩;have ad:=ij ar (ij iR a2);cases q with
   |true=>
    go_wp2;go_roundw
    case rel=>exact⟨j+1,iu,by go_num,HT,ad⟩
    case measure=>simp only[intOf];omega
   |false=>
   have I:Hid (iU mx xl yl=false):=iy (by rw[HV.out,HF.out rfl,qT]);go_wp2;go_ret;exact⟨iK (by rw[I.out]),ad⟩
  obtain rfl:j=n:=iu;have I:Hid (iU mx xl yl=true):=iy (by
   have h_:=HJ.out;rw[HV.out];rw[<- hn,pf,hn,<- hm,pf]at h_;rw[h_];simp)
  go_wp2;go_ret;exact⟨iK (by rw[I.out]),ar⟩
 have I:Hid (iU mx xl yl=false):=iy (by rw[HV.out,decide_eq_false ab,qu]);go_in;go_wp2;go_ret;exact⟨iK (by rw[I.out]),iR⟩
theorem Q4 {w0:World} {A1 B1:Option Addr} {c1 d1:Nat} {xl yl:List ma} (x:ir 8 (Eo S) w0 ⟨A1,c1,xl⟩) (y:ir 8 (Eo S) w0 ⟨B1,d1,yl⟩) (w:World) (aft:ik w0 w)
  (hS:∀(i:Nat) (a b:ma),xl[i]?=some a->yl[i]?=some b->∀U:World,ik w0 U->Calls prog 136 #[JO a,JO b] U fun e w'=>e=.returned (.bool (mj a b))/\ik U w') :
  Calls prog 135 #[.slice A1 xl.length c1,.slice B1 yl.length d1,.func (.func 136) #[] #[]] w fun e w'=>e=.returned (.bool (iU mj xl yl))/\ik w w':=by
 have XX:=iy x;have YY:=iy y;replace hS:=iy hS;have a':=x.len;have a_:=y.len;simp only[]at a' a_;obtain⟨n,hn⟩:=jt (xl.length);obtain⟨m,hm⟩:=jt (yl.length);have HV:Hid (iU mj xl yl=(decide (n=m)&&kW mj xl yl)):=iy (by unfold iU;rw[hn,hm]);rw[hn]at a'⊢;rw[hm]at a_⊢;by_cases aa:n=m
 ·subst aa
  go_in;go_wp2_with fail;go_loopw [17] (fun i wr=>∃j:Nat,j<=n/\i=.int .i64 (j:Nat)/\Hid (kW mj (xl.take j) (yl.take j)=true)/\ik w wr) (fun i _=>n-(intOf i).toNat)
  case atStart=>exact⟨0,iu,rfl,iy (by simp[kW]),iR⟩
  case round=>
  obtain⟨j,hj,rfl,HJ,ar⟩:=hrel;have a8:=ij aft ar;by_cases ad:j<n
  ·have ae:(j:Int)<(n:Int):=iu
   obtain⟨b,p,u1,rfl,ag,R,hP⟩:=(XX.trs wr (k:=a8)).part (i:=j) (by show j<xl.length;omega);obtain⟨b2,p2,u2,rfl,af,J,hQ⟩:=(YY.trs wr (k:=a8)).part (i:=j) (by show j<yl.length;omega);simp only[]at R J;have HT:Hid (kW mj (xl.take (j+1)) (yl.take (j+1))=mj u1 u2):=iy (by rw[oJ mj R.out J.out,HJ.out,xI]);have HF:Hid (mj u1 u2=false->kW mj xl yl=false):=iy fun h=>nI mj R J h
   have HC:Hid (∀U:World,ik wr U->Calls prog 136 #[JO u1,JO u2] U fun e w'=>e=.returned (.bool (mj u1 u2))/\ik U w'):=iy fun U hU=>hS j _ _ R J U (ij a8 hU)
   obtain⟨⟨k,o,t,v,s,A,c,xs⟩,ds,re⟩:=u1;obtain⟨⟨k',o',t',v',s',A',c',a1⟩,a7,a6⟩:=u2;obtain⟨e0,e1,e2,e3,e4,e5,e6,e7⟩:wr.cell? ⟨b,p+j*8,none⟩=some (.int .i64 k)/\wr.cell? ⟨b,p+j*8+1,none⟩=some (.int .i64 o)/\wr.cell? ⟨b,p+j*8+2,none⟩=some (.int .i64 t)/\wr.cell? ⟨b,p+j*8+3,none⟩=some (.int .i64 v)/\wr.cell? ⟨b,p+j*8+4,none⟩=some (.string s)/\wr.cell? ⟨b,p+j*8+5,none⟩=some (.slice A xs.length c)/\wr.cell? ⟨b,p+j*8+6,none⟩=some (.int .i64 ds)/\wr.cell? ⟨b,p+j*8+7,none⟩=some (.bool re):=⟨hP.six.c0,hP.six.c1,hP.six.c2,hP.six.c3,hP.six.c4,hP.six.c5,hP.c6,hP.c7⟩;obtain⟨g0,g1,g2,g3,g4,g5,g6,g7⟩:wr.cell? ⟨b2,p2+j*8,none⟩=some (.int .i64 k')/\wr.cell? ⟨b2,p2+j*8+1,none⟩=some (.int .i64 o')/\wr.cell? ⟨b2,p2+j*8+2,none⟩=some (.int .i64 t')/\wr.cell? ⟨b2,p2+j*8+3,none⟩=some (.int .i64 v')/\wr.cell? ⟨b2,p2+j*8+4,none⟩=some (.string s')/\wr.cell? ⟨b2,p2+j*8+5,none⟩=some (.slice A' a1.length c')/\wr.cell? ⟨b2,p2+j*8+6,none⟩=some (.int .i64 a7)/\wr.cell? ⟨b2,p2+j*8+7,none⟩=some (.bool a6):=⟨hQ.six.c0,hQ.six.c1,hQ.six.c2,hQ.six.c3,hQ.six.c4,hQ.six.c5,hQ.c6,hQ.c7⟩;obtain⟨q,hq⟩:=jt (mj ⟨⟨k,o,t,v,s,A,c,xs⟩,ds,re⟩ ⟨⟨k',o',t',v',s',A',c',a1⟩,a7,a6⟩);rw[hq]at HC HT HF;replace HC:Hid (∀U:World,ik wr U->Calls prog 136 #[.agg #[k,o,t,v,s,.slice A xs.length c,ds,.bool re],.agg #[k',o',t',v',s',.slice A' a1.length c',a7,.bool a6]] U fun e w'=>e=.returned (.bool q)/\ik U w'):=HC;go_wp2_with fail;refine (HC _ iR).mono ?_;rintro e w2 ⟨rfl,a2⟩;have ab:=ij ar (ij iR a2);cases q with
   |true=>
    go_wp2;go_roundw
    case rel=>exact⟨j+1,iu,by go_num,HT,ab⟩
    case measure=>simp only[intOf];omega
   |false=>
   have I:Hid (iU mj xl yl=false):=iy (by rw[HV.out,HF.out rfl,qT]);go_wp2;go_ret;exact⟨iK (by rw[I.out]),ab⟩
  obtain rfl:j=n:=iu;have I:Hid (iU mj xl yl=true):=iy (by
   have h_:=HJ.out;rw[HV.out];rw[<- hn,pf,hn,<- hm,pf]at h_;rw[h_];simp)
  go_wp2;go_ret;exact⟨iK (by rw[I.out]),ar⟩
 have I:Hid (iU mj xl yl=false):=iy (by rw[HV.out,decide_eq_false aa,qu]);go_in;go_wp2;go_ret;exact⟨iK (by rw[I.out]),iR⟩
theorem Q0 {w0:World} {A1 B1:Option Addr} {c1 d1:Nat} {xl yl:List StT} (x:ir 6 (OZ S) w0 ⟨A1,c1,xl⟩) (y:ir 6 (OZ S) w0 ⟨B1,d1,yl⟩) (w:World) (aft:ik w0 w)
  (hS:∀(i:Nat) (a b:StT),xl[i]?=some a->yl[i]?=some b->∀U:World,ik w0 U->Calls prog 96 #[KM a,KM b] U fun e w'=>e=.returned (.bool (mw a b))/\ik U w') :
  Calls prog 95 #[.slice A1 xl.length c1,.slice B1 yl.length d1,.func (.func 96) #[] #[]] w fun e w'=>e=.returned (.bool (iU mw xl yl))/\ik w w':=by
 have XX:=iy x;have YY:=iy y;replace hS:=iy hS;have aB:=x.len;have az:=y.len;simp only[]at aB az;obtain⟨n,hn⟩:=jt (xl.length);obtain⟨m,hm⟩:=jt (yl.length);have HV:Hid (iU mw xl yl=(decide (n=m)&&kW mw xl yl)):=iy (by unfold iU;rw[hn,hm]);rw[hn]at aB⊢;rw[hm]at az⊢;by_cases aC:n=m
 ·subst aC
  go_in;go_wp2_with fail;go_loopw [17] (fun i wr=>∃j:Nat,j<=n/\i=.int .i64 (j:Nat)/\Hid (kW mw (xl.take j) (yl.take j)=true)/\ik w wr) (fun i _=>n-(intOf i).toNat)
  case atStart=>exact⟨0,iu,rfl,iy (by simp[kW]),iR⟩
  case round=>
  obtain⟨j,hj,rfl,HJ,ar⟩:=hrel;have ay:=ij aft ar;by_cases aE:j<n
  ·have aF:(j:Int)<(n:Int):=iu
   obtain⟨b,p,u1,rfl,aH,aa,hP⟩:=(XX.sts wr (k:=ay)).part (i:=j) (by show j<xl.length;omega);obtain⟨b2,p2,u2,rfl,aG,a',hQ⟩:=(YY.sts wr (k:=ay)).part (i:=j) (by show j<yl.length;omega);simp only[]at aa a';have HT:Hid (kW mw (xl.take (j+1)) (yl.take (j+1))=mw u1 u2):=iy (by rw[oJ mw aa.out a'.out,HJ.out,xI]);have HF:Hid (mw u1 u2=false->kW mw xl yl=false):=iy fun h=>nI mw aa a' h
   have HC:Hid (∀U:World,ik wr U->Calls prog 96 #[KM u1,KM u2] U fun e w'=>e=.returned (.bool (mw u1 u2))/\ik U w'):=iy fun U hU=>hS j _ _ aa a' U (ij ay hU)
   obtain⟨nm,⟨ak,aj,lo⟩,⟨ao,an,eq⟩,aA,ac,au,⟨ag,af,ul⟩,⟨ad,ab,ut⟩⟩:=u1;obtain⟨ai,⟨a6,a1,al⟩,⟨a8,a7,aq⟩,ax,aw,av,⟨R,J,ah⟩,⟨I,o,ae⟩⟩:=u2;obtain⟨e0,e1,e2,e3,e4,e5⟩:wr.cell? ⟨b,p+j*6,none⟩=some (.string nm)/\wr.cell? ⟨b,p+j*6+1,none⟩=some (.slice ak lo.length aj)/\wr.cell? ⟨b,p+j*6+2,none⟩=some (.slice ao eq.length an)/\wr.cell? ⟨b,p+j*6+3,none⟩=some (.slice aA au.length ac)/\wr.cell? ⟨b,p+j*6+4,none⟩=some (.slice ag ul.length af)/\wr.cell? ⟨b,p+j*6+5,none⟩=some (.slice ad ut.length ab):=⟨hP.1.c0,hP.1.c1,hP.1.c2,hP.1.c3,hP.1.c4,hP.1.c5⟩;obtain⟨g0,g1,g2,g3,g4,g5⟩:wr.cell? ⟨b2,p2+j*6,none⟩=some (.string ai)/\wr.cell? ⟨b2,p2+j*6+1,none⟩=some (.slice a6 al.length a1)/\wr.cell? ⟨b2,p2+j*6+2,none⟩=some (.slice a8 aq.length a7)/\wr.cell? ⟨b2,p2+j*6+3,none⟩=some (.slice ax av.length aw)/\wr.cell? ⟨b2,p2+j*6+4,none⟩=some (.slice R ah.length J)/\wr.cell? ⟨b2,p2+j*6+5,none⟩=some (.slice I ae.length o):=⟨hQ.1.c0,hQ.1.c1,hQ.1.c2,hQ.1.c3,hQ.1.c4,hQ.1.c5⟩;obtain⟨q,hq⟩:=jt (mw ⟨nm,⟨ak,aj,lo⟩,⟨ao,an,eq⟩,aA,ac,au,⟨ag,af,ul⟩,⟨ad,ab,ut⟩⟩ ⟨ai,⟨a6,a1,al⟩,⟨a8,a7,aq⟩,ax,aw,av,⟨R,J,ah⟩,⟨I,o,ae⟩⟩);rw[hq]at HC HT HF;replace HC:Hid (∀U:World,ik wr U->Calls prog 96 #[.agg #[nm,.slice ak lo.length aj,.slice ao eq.length an,.slice aA au.length ac,.slice ag ul.length af,.slice ad ut.length ab],.agg #[ai,.slice a6 al.length a1,.slice a8 aq.length a7,.slice ax av.length aw,.slice R ah.length J,.slice I ae.length o]] U fun e w'=>e=.returned (.bool q)/\ik U w'):=HC;go_wp2_with fail;refine (HC _ iR).mono ?_;rintro e w2 ⟨rfl,a2⟩
   have aD:=ij ar (ij iR a2);cases q with
   |true=>
    go_wp2;go_roundw
    case rel=>exact⟨j+1,iu,by go_num,HT,aD⟩
    case measure=>simp only[intOf];omega
   |false=>
   have a_:Hid (iU mw xl yl=false):=iy (by rw[HV.out,HF.out rfl,qT]);go_wp2;go_ret;exact⟨iK (by rw[a_.out]),aD⟩
  obtain rfl:j=n:=iu;have a_:Hid (iU mw xl yl=true):=iy (by
   have h_:=HJ.out;rw[HV.out];rw[<- hn,pf,hn,<- hm,pf]at h_;rw[h_];simp)
  go_wp2;go_ret;exact⟨iK (by rw[a_.out]),ar⟩
 have a_:Hid (iU mw xl yl=false):=iy (by rw[HV.out,decide_eq_false aC,qu]);go_in;go_wp2;go_ret;exact⟨iK (by rw[a_.out]),iR⟩
theorem M7 {w0:World} {A1 B1:Option Addr} {c1 d1:Nat} {xl yl:List AuT} (x:ir 1 (xM S) w0 ⟨A1,c1,xl⟩) (y:ir 1 (xM S) w0 ⟨B1,d1,yl⟩) (w:World) (aft:ik w0 w)
  (hS:∀(i:Nat) (a b:AuT),xl[i]?=some a->yl[i]?=some b->∀U:World,ik w0 U->Calls prog 55 #[Eg a,Eg b] U fun e w'=>e=.returned (.bool (lE a b))/\ik U w') :
  Calls prog 54 #[.slice A1 xl.length c1,.slice B1 yl.length d1,.func (.func 55) #[] #[]] w fun e w'=>e=.returned (.bool (iU lE xl yl))/\ik w w':=by
 have XX:=iy x;have YY:=iy y;replace hS:=iy hS;have a_:=x.len;have a8:=y.len;simp only[]at a_ a8;obtain⟨n,hn⟩:=jt (xl.length);obtain⟨m,hm⟩:=jt (yl.length);have HV:Hid (iU lE xl yl=(decide (n=m)&&kW lE xl yl)):=iy (by unfold iU;rw[hn,hm]);rw[hn]at a_⊢;rw[hm]at a8⊢;by_cases a':n=m
 ·subst a'
  go_in;go_wp2_with fail;go_loopw [17] (fun i wr=>∃j:Nat,j<=n/\i=.int .i64 (j:Nat)/\Hid (kW lE (xl.take j) (yl.take j)=true)/\ik w wr) (fun i _=>n-(intOf i).toNat)
  case atStart=>exact⟨0,iu,rfl,iy (by simp[kW]),iR⟩
  case round=>
  obtain⟨j,hj,rfl,HJ,ar⟩:=hrel;have a7:=ij aft ar;by_cases ab:j<n
  ·have ad:(j:Int)<(n:Int):=iu
   obtain⟨b,p,u1,rfl,af,J,hP⟩:=(XX.Ru wr (k:=a7)).part (i:=j) (by show j<xl.length;omega);obtain⟨b2,p2,u2,rfl,ae,I,hQ⟩:=(YY.Ru wr (k:=a7)).part (i:=j) (by show j<yl.length;omega);simp only[]at J I;have HT:Hid (kW lE (xl.take (j+1)) (yl.take (j+1))=lE u1 u2):=iy (by rw[oJ lE J.out I.out,HJ.out,xI]);have HF:Hid (lE u1 u2=false->kW lE xl yl=false):=iy fun h=>nI lE J I h
   have HC:Hid (∀U:World,ik wr U->Calls prog 55 #[Eg u1,Eg u2] U fun e w'=>e=.returned (.bool (lE u1 u2))/\ik U w'):=iy fun U hU=>hS j _ _ J I U (ij a7 hU)
   obtain⟨zA,zc,zl⟩:=u1;obtain⟨a6,a1,R⟩:=u2;have e0:wr.cell? ⟨b,p+j,none⟩=some (.slice zA zl.length zc):=by have:=hP.1;rwa [yr]at this
   have g0:wr.cell? ⟨b2,p2+j,none⟩=some (.slice a6 R.length a1):=by have:=hQ.1;rwa [yr]at this
   obtain⟨q,hq⟩:=jt (lE ⟨zA,zc,zl⟩ ⟨a6,a1,R⟩);rw[hq]at HC HT HF;replace HC:Hid (∀U:World,ik wr U->Calls prog 55 #[.agg #[.slice zA zl.length zc],.agg #[.slice a6 R.length a1]] U fun e w'=>e=.returned (.bool q)/\ik U w'):=HC;go_wp2_with fail;refine (HC _ inferInstance).mono ?_;rintro e w2 ⟨rfl,a2⟩;have aa:=ij ar (ij iR a2);cases q with
   |true=>
    go_wp2;go_roundw
    case rel=>exact⟨j+1,iu,by go_num,HT,aa⟩
    case measure=>simp only[intOf];omega
   |false=>
   have o:Hid (iU lE xl yl=false):=iy (by rw[HV.out,HF.out rfl,qT]);go_wp2;go_ret;exact⟨iK (by rw[o.out]),aa⟩
  obtain rfl:j=n:=iu;have o:Hid (iU lE xl yl=true):=iy (by
   have h_:=HJ.out;rw[HV.out];rw[<- hn,pf,hn,<- hm,pf]at h_;rw[h_];simp)
  go_wp2;go_ret;exact⟨iK (by rw[o.out]),ar⟩
 have o:Hid (iU lE xl yl=false):=iy (by rw[HV.out,decide_eq_false a',qu]);go_in;go_wp2;go_ret;exact⟨iK (by rw[o.out]),iR⟩
theorem QU {w0:World} {A1 B1:Option Addr} {c1 d1:Nat} {xl yl:List nh} (x:ir 8 (Gy S) w0 ⟨A1,c1,xl⟩) (y:ir 8 (Gy S) w0 ⟨B1,d1,yl⟩) (w:World) (aft:ik w0 w)
  (hS:∀(i:Nat) (a b:nh),xl[i]?=some a->yl[i]?=some b->∀U:World,ik w0 U->Calls prog 24 #[Kj a,Kj b] U fun e w'=>e=.returned (.bool (nu a b))/\ik U w') :
  Calls prog 23 #[.slice A1 xl.length c1,.slice B1 yl.length d1,.func (.func 24) #[] #[]] w fun e w'=>e=.returned (.bool (iU nu xl yl))/\ik w w':=by
 have XX:=iy x;have YY:=iy y;replace hS:=iy hS;have aP:=x.len;have aO:=y.len;simp only[]at aP aO;obtain⟨n,hn⟩:=jt (xl.length);obtain⟨m,hm⟩:=jt (yl.length);have HV:Hid (iU nu xl yl=(decide (n=m)&&kW nu xl yl)):=iy (by unfold iU;rw[hn,hm]);rw[hn]at aP⊢;rw[hm]at aO⊢;by_cases aQ:n=m
 ·subst aQ
  go_in;go_wp2_with fail;go_loopw [17] (fun i wr=>∃j:Nat,j<=n/\i=.int .i64 (j:Nat)/\Hid (kW nu (xl.take j) (yl.take j)=true)/\ik w wr) (fun i _=>n-(intOf i).toNat)
  case atStart=>exact⟨0,iu,rfl,iy (by simp[kW]),iR⟩
  case round=>
  obtain⟨j,hj,rfl,HJ,ar⟩:=hrel;have aN:=ij aft ar;by_cases aS:j<n
  ·have aT:(j:Int)<(n:Int):=iu
   obtain⟨b,p,u1,rfl,aV,ak,hP⟩:=(XX.Sr wr (k:=aN)).part (i:=j) (by show j<xl.length;omega);obtain⟨b2,p2,u2,rfl,aU,aj,hQ⟩:=(YY.Sr wr (k:=aN)).part (i:=j) (by show j<yl.length;omega);simp only[]at ak aj;have HT:Hid (kW nu (xl.take (j+1)) (yl.take (j+1))=nu u1 u2):=iy (by rw[oJ nu ak.out aj.out,HJ.out,xI]);have HF:Hid (nu u1 u2=false->kW nu xl yl=false):=iy fun h=>nI nu ak aj h
   have HC:Hid (∀U:World,ik wr U->Calls prog 24 #[Kj u1,Kj u2] U fun e w'=>e=.returned (.bool (nu u1 u2))/\ik U w'):=iy fun U hU=>hS j _ _ ak aj U (ij aN hU)
   obtain⟨nm,⟨aA,ay,az⟩,⟨an,al,ou⟩,⟨aw,av,lo⟩,⟨aC,aB,eq⟩,⟨aI,aH,au⟩,⟨aM,aK,aL⟩,⟨aG,aE,aF⟩⟩:=u1;obtain⟨aq,⟨a7,a1,a6⟩,⟨I,o,ao⟩,⟨R,J,ax⟩,⟨a_,a8,aD⟩,⟨ae,ad,aJ⟩,⟨ah,af,ag⟩,⟨ab,a',aa⟩⟩:=u2;obtain⟨e0,e1,e2,e3,e4,e5,e6,e7⟩:wr.cell? ⟨b,p+j*8,none⟩=some (.string nm)/\wr.cell? ⟨b,p+j*8+1,none⟩=some (.slice aA az.length ay)/\wr.cell? ⟨b,p+j*8+2,none⟩=some (.slice an ou.length al)/\wr.cell? ⟨b,p+j*8+3,none⟩=some (.slice aw lo.length av)/\wr.cell? ⟨b,p+j*8+4,none⟩=some (.slice aC eq.length aB)/\wr.cell? ⟨b,p+j*8+5,none⟩=some (.slice aI au.length aH)/\wr.cell? ⟨b,p+j*8+6,none⟩=some (.slice aM aL.length aK)/\wr.cell? ⟨b,p+j*8+7,none⟩=some (.slice aG aF.length aE):=⟨hP.c0,hP.c1,hP.c2,hP.c3,hP.c4,hP.c5,hP.c6,hP.c7⟩;obtain⟨g0,g1,g2,g3,g4,g5,g6,g7⟩:wr.cell? ⟨b2,p2+j*8,none⟩=some (.string aq)/\wr.cell? ⟨b2,p2+j*8+1,none⟩=some (.slice a7 a6.length a1)/\wr.cell? ⟨b2,p2+j*8+2,none⟩=some (.slice I ao.length o)/\wr.cell? ⟨b2,p2+j*8+3,none⟩=some (.slice R ax.length J)/\wr.cell? ⟨b2,p2+j*8+4,none⟩=some (.slice a_ aD.length a8)/\wr.cell? ⟨b2,p2+j*8+5,none⟩=some (.slice ae aJ.length ad)/\wr.cell? ⟨b2,p2+j*8+6,none⟩=some (.slice ah ag.length af)/\wr.cell? ⟨b2,p2+j*8+7,none⟩=some (.slice ab aa.length a'):=⟨hQ.c0,hQ.c1,hQ.c2,hQ.c3,hQ.c4,hQ.c5,hQ.c6,hQ.c7⟩;obtain⟨q,hq⟩:=jt (nu ⟨nm,⟨aA,ay,az⟩,⟨an,al,ou⟩,⟨aw,av,lo⟩,⟨aC,aB,eq⟩,⟨aI,aH,au⟩,⟨aM,aK,aL⟩,⟨aG,aE,aF⟩⟩ ⟨aq,⟨a7,a1,a6⟩,⟨I,o,ao⟩,⟨R,J,ax⟩,⟨a_,a8,aD⟩,⟨ae,ad,aJ⟩,⟨ah,af,ag⟩,⟨ab,a',aa⟩⟩);rw[hq]at HC HT HF;replace HC:Hid (∀U:World,ik wr U->Calls prog 24 #[.agg #[nm,.slice aA az.length ay,.slice an ou.length al,.slice aw lo.length av,.slice aC eq.length aB,.slice aI au.length aH,.slice aM aL.length aK,.slice aG aF.length aE],.agg #[aq,.slice a7 a6.length a1,.slice I ao.length o,.slice R ax.length J,.slice a_ aD.length a8,.slice ae aJ.length ad,.slice ah ag.length af,.slice ab aa.length a']] U fun e w'=>e=.returned (.bool q)/\ik U w'):=HC
   go_wp2_with fail;refine (HC _ iR).mono ?_;rintro e w2 ⟨rfl,a2⟩;have aR:=ij ar (ij iR a2);cases q with
   |true=>
    go_wp2;go_roundw
    case rel=>exact⟨j+1,iu,by go_num,HT,aR⟩
    case measure=>simp only[intOf];omega
   |false=>
   have ai:Hid (iU nu xl yl=false):=iy (by rw[HV.out,HF.out rfl,qT]);go_wp2;go_ret;exact⟨iK (by rw[ai.out]),aR⟩
  obtain rfl:j=n:=iu;have ai:Hid (iU nu xl yl=true):=iy (by
   have h_:=HJ.out;rw[HV.out];rw[<- hn,pf,hn,<- hm,pf]at h_;rw[h_];simp)
  go_wp2;go_ret;exact⟨iK (by rw[ai.out]),ar⟩
 have ai:Hid (iU nu xl yl=false):=iy (by rw[HV.out,decide_eq_false aQ,qu]);go_in;go_wp2;go_ret;exact⟨iK (by rw[ai.out]),iR⟩
theorem Qy {w0:World} {A1 B1:Option Addr} {c1 d1:Nat} {xl yl:List Tx} (x:ir 6 (Bu S) w0 ⟨A1,c1,xl⟩) (y:ir 6 (Bu S) w0 ⟨B1,d1,yl⟩) (w:World) (aft:ik w0 w)
  (hS:∀(i:Nat) (a b:Tx),xl[i]?=some a->yl[i]?=some b->∀U:World,ik w0 U->Calls prog 57 #[JX a,JX b] U fun e w'=>e=.returned (.bool (Tx.same a b))/\ik U w') :
  Calls prog 56 #[.slice A1 xl.length c1,.slice B1 yl.length d1,.func (.func 57) #[] #[]] w fun e w'=>e=.returned (.bool (iU Tx.same xl yl))/\ik w w':=by
 have XX:=iy x;have YY:=iy y;replace hS:=iy hS;have a8:=x.len;have a7:=y.len;simp only[]at a8 a7;obtain⟨n,hn⟩:=jt (xl.length);obtain⟨m,hm⟩:=jt (yl.length);have HV:Hid (iU Tx.same xl yl=(decide (n=m)&&kW Tx.same xl yl)):=iy (by unfold iU;rw[hn,hm]);rw[hn]at a8⊢;rw[hm]at a7⊢;by_cases a_:n=m
 ·subst a_
  go_in;go_wp2_with fail;go_loopw [17] (fun i wr=>∃j:Nat,j<=n/\i=.int .i64 (j:Nat)/\Hid (kW Tx.same (xl.take j) (yl.take j)=true)/\ik w wr) (fun i _=>n-(intOf i).toNat)
  case atStart=>exact⟨0,iu,rfl,iy (by simp[kW]),iR⟩
  case round=>
  obtain⟨j,hj,rfl,HJ,ar⟩:=hrel;have a6:=ij aft ar;by_cases aa:j<n
  ·have ab:(j:Int)<(n:Int):=iu
   obtain⟨b,p,u1,rfl,ae,R,hP⟩:=(XX.txs wr (k:=a6)).part (i:=j) (by show j<xl.length;omega);obtain⟨b2,p2,u2,rfl,ad,J,hQ⟩:=(YY.txs wr (k:=a6)).part (i:=j) (by show j<yl.length;omega);simp only[]at R J;have HT:Hid (kW Tx.same (xl.take (j+1)) (yl.take (j+1))=Tx.same u1 u2):=iy (by rw[oJ Tx.same R.out J.out,HJ.out,xI]);have HF:Hid (Tx.same u1 u2=false->kW Tx.same xl yl=false):=iy fun h=>nI Tx.same R J h
   have HC:Hid (∀U:World,ik wr U->Calls prog 57 #[JX u1,JX u2] U fun e w'=>e=.returned (.bool (Tx.same u1 u2))/\ik U w'):=iy fun U hU=>hS j _ _ R J U (ij a6 hU)
   obtain⟨k,o,t,v,s,A,c,xs⟩:=u1;obtain⟨k',o',t',v',s',A',c',a1⟩:=u2;obtain⟨e0,e1,e2,e3,e4,e5⟩:wr.cell? ⟨b,p+j*6,none⟩=some (.int .i64 k)/\wr.cell? ⟨b,p+j*6+1,none⟩=some (.int .i64 o)/\wr.cell? ⟨b,p+j*6+2,none⟩=some (.int .i64 t)/\wr.cell? ⟨b,p+j*6+3,none⟩=some (.int .i64 v)/\wr.cell? ⟨b,p+j*6+4,none⟩=some (.string s)/\wr.cell? ⟨b,p+j*6+5,none⟩=some (.slice A xs.length c):=⟨hP.six.c0,hP.six.c1,hP.six.c2,hP.six.c3,hP.six.c4,hP.six.c5⟩;obtain⟨g0,g1,g2,g3,g4,g5⟩:wr.cell? ⟨b2,p2+j*6,none⟩=some (.int .i64 k')/\wr.cell? ⟨b2,p2+j*6+1,none⟩=some (.int .i64 o')/\wr.cell? ⟨b2,p2+j*6+2,none⟩=some (.int .i64 t')/\wr.cell? ⟨b2,p2+j*6+3,none⟩=some (.int .i64 v')/\wr.cell? ⟨b2,p2+j*6+4,none⟩=some (.string s')/\wr.cell? ⟨b2,p2+j*6+5,none⟩=some (.slice A' a1.length c'):=⟨hQ.six.c0,hQ.six.c1,hQ.six.c2,hQ.six.c3,hQ.six.c4,hQ.six.c5⟩;obtain⟨q,hq⟩:=jt (Tx.same ⟨k,o,t,v,s,A,c,xs⟩ ⟨k',o',t',v',s',A',c',a1⟩);rw[hq]at HC HT HF;replace HC:Hid (∀U:World,ik wr U->Calls prog 57 #[.agg #[k,o,t,v,s,.slice A xs.length c],.agg #[k',o',t',v',s',.slice A' a1.length c']] U fun e w'=>e=.returned (.bool q)/\ik U w'):=HC;go_wp2_with fail;refine (HC _ iR).mono ?_;rintro e w2 ⟨rfl,a2⟩;have a':=ij ar (ij iR a2);cases q with
   |true=>
    go_wp2;go_roundw
    case rel=>exact⟨j+1,iu,by go_num,HT,a'⟩
    case measure=>simp only[intOf];omega
   |false=>
   have I:Hid (iU Tx.same xl yl=false):=iy (by rw[HV.out,HF.out rfl,qT]);go_wp2;go_ret;exact⟨iK (by rw[I.out]),a'⟩
  obtain rfl:j=n:=iu;have I:Hid (iU Tx.same xl yl=true):=iy (by
   have h_:=HJ.out;rw[HV.out];rw[<- hn,pf,hn,<- hm,pf]at h_;rw[h_];simp)
  go_wp2;go_ret;exact⟨iK (by rw[I.out]),ar⟩
 have I:Hid (iU Tx.same xl yl=false):=iy (by rw[HV.out,decide_eq_false a_,qu]);go_in;go_wp2;go_ret;exact⟨iK (by rw[I.out]),iR⟩
end
end Go.Proofs.YtnigblndonocfaaGreatDoor
