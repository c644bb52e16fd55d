/- A part of the proof. -/
import Derived.Test.YtnigblndonocfaaGreatDoorP1
import Derived.Laws.RangeString
import Derived.Maps.OwnSet
import Derived.StringKeys
set_option linter.unusedVariables false
set_option linter.unusedSimpArgs false
namespace Go.Proofs.YtnigblndonocfaaGreatDoor
set_option maxRecDepth 100000
set_option maxHeartbeats 4000000
open Go.RowKit Go.BigFrame Go.Proofs.Tryz
def qx (r:List UInt8) (best t:yB):yB:=if decide (best.size<t.size)&&Lib.hasPrefix r t.data.toList then t else best
def ux (r:List UInt8) (l:List yB):yB:=l.foldl (qx r) ⟨#[]⟩
def vy (l:List yB) (s:yB) (a:Nat):Option (Tk×Nat):=if (ux (s.data.toList.drop a) l).size=0 then none else some (⟨4,ux (s.data.toList.drop a) l⟩,a+(ux (s.data.toList.drop a) l).size)
theorem JH {r:List UInt8} {best t:yB} (h:best.size=0\/Lib.hasPrefix r best.data.toList=true):(qx r best t).size=0\/Lib.hasPrefix r (qx r best t).data.toList=true:=by
 unfold qx;cases hc:(decide (best.size<t.size)&&Lib.hasPrefix r t.data.toList)
 ·exact h
 right;rw[mT]at hc;exact hc.2
theorem Pf (r:List UInt8) (l:List yB):(ux r l).size=0\/Lib.hasPrefix r (ux r l).data.toList=true:=by
 unfold ux;have:∀(l:List yB) (b:yB),(b.size=0\/Lib.hasPrefix r b.data.toList=true)->((l.foldl (qx r) b).size=0\/Lib.hasPrefix r (l.foldl (qx r) b).data.toList=true):=by
  intro l;induction l with
  |nil=>intro b h;exact h
  |cons t l ih=>intro b h;exact ih _ (JH h)
 exact this l _ (.inl rfl)
theorem Kp {s:yB} {a:Nat} (ha:a<=s.size) (l:List yB):a+(ux (s.data.toList.drop a) l).size<=s.size:=by
 rcases Pf (s.data.toList.drop a) l with h | h
 ·omega
 unfold Lib.hasPrefix at h;rw[List.isPrefixOf_iff_prefix]at h;have:=h.length_le;rw[nY,jr,jr]at this;omega
theorem Ae {r:List UInt8} {l:List yB} {k:Nat} {t:yB} (h:l[k]?=some t):ux r (l.take (k+1))=qx r (ux r (l.take k)) t:=by
 obtain⟨j,rfl⟩:=rq.1 h;unfold ux;rw[IX j,List.foldl_append];rfl
theorem FH {s t:yB} {a:Nat} {d:Bool} (ha:a<=s.size) (h:Lib.hasPrefix (s.data.toList.drop a) t.data.toList=d) (hd:d=true):t.size<=s.size:=by
 subst hd;unfold Lib.hasPrefix at h;rw[List.isPrefixOf_iff_prefix]at h;have:=h.length_le;rw[nY,jr,jr]at this;omega
theorem JI {s:yB} (h:s.size=0):s.toList.isEmpty=true:=by rw[Ie h,nC];rfl
theorem GZ {q a:Nat} {s:yB} (hs:s.size<=140737488355328) (ha:a<=s.size) {A:zA} {c:Nat} {l:List yB} (w:yM) (h:Sc w q s a) (hl:F4 w A c l) (hqA:∀b o,A=some ⟨b,o,none⟩->b≠q) :
  Calls prog 114 #[.pointer q,(A,l,c)] w (Gr q s w (vy l s a)):=by
 have hq:=h.lt;have l0:=h.is_le;obtain⟨r,hr⟩:=jt (w.heap.size);have a7:w<=r:=lI hr;have hB:tr (w.alloc (.cells #[JX,.string ⟨#[]⟩,JX] 150)) r 0 ⟨#[]⟩:=by have hb:=jC w 150 #[JX,.string ⟨#[]⟩,JX];rw[hr]at hb;exact hb
 obtain⟨w0,a1,aq,a0,ag⟩:∃v,w.alloc (.cells #[JX,.string ⟨#[]⟩,JX] 150)=v/\ik w v/\ik (iz q w) (iz q v)/\Sc v q s a:=⟨_,rfl,iR,by rw[tf w hq];exact iR,h.alloc _⟩;rw[a1]at hB;have I:r≠q:=iu;have HL:=iy (hl.here w0);have ai:=hl.len;have aj:=hl.cap;have al:=hl.le;have HB:=iy hB;have HS:=iy ag;have a_:=Kp ha l;have HX:Hid (vy l s a=if (ux (s.data.toList.drop a) l).size=0 then none else some (⟨4,ux (s.data.toList.drop a) l⟩,a+(ux (s.data.toList.drop a) l).size)):=rfl;generalize vy l s a=V at HX;obtain⟨Z,hZ⟩:=jt (ux (s.data.toList.drop a) l);rw[hZ]at HX a_;have HZ:=iy hZ;have ao:(a:Int)<=(s.size:Int):=iu;have an:(0:Int)<=(a:Int):=iu;go_in;go_wp2_with fail;try rw[hr]
 try rw[a1]
 go_loopw [6,11] (fun a' i wr=>∃(k:Nat) (z:yB),k<=l.length/\i=.int .i64 (k:Nat)/\a'=.string z/\z.size<=s.size/\Hid (ux (s.data.toList.drop a) (l.take k)=z)/\ik w0 wr) (fun _ i _=>l.length-(intOf i).toNat)
 ·exact⟨0,⟨#[]⟩,iu,rfl,rfl,wB _,rfl,iq _⟩
 case round=>
 obtain⟨k,z,hk,rfl,rfl,R,hn,J⟩:=hrel;by_cases ad:k<l
 ·have a8:(k:Int)<(l:Int):=iu
  obtain⟨b,o,t,rfl,lb,hc,ht⟩:=(HL.here wr).at_ ad;have S1:=mZ (w':=wr) HS;have l0:=S1.is_le;have c0:=(S1.cell 0).trans rfl;have c1:=(S1.cell 1).trans rfl;obtain⟨d,hd⟩:=jt (Lib.hasPrefix (s.data.toList.drop a) t.data.toList);have G:Hid (∀U,Calls prog 82 #[(s.extract a s.size),t] U fun e w'=>e=.returned (.bool d)/\w'=U):=fun U=>by
   have:=strings_HasPrefix (s.extract a s.size) t U;rw[zh]at this;rw[<- hd];exact this
  have HD:=iy hd;have a6:=FH ha HD;by_cases hg:z.size<t.size
  ·have af:(z.size:Int)<(t.size:Int):=iu
   cases d
   ·go_wp2_with fail
    refine iE (by kernel_rfl) (by kernel_rfl) ?_;repeat (go_big_quiet_step ((go_at_call 82;exact O5 ((G _).mono fun e w' h=>⟨h.1,h.2.symm⟩))))
    refine wpQuiet_nil ?_;rintro _ ⟨y_,rfl⟩;go_wp2;go_roundw
    case rel=>exact⟨k+1,z,iu,by go_num,rfl,R,by rw[Ae ht.out,hn.out];unfold qx;rw[HD.out,qT];rfl,ij J iR⟩
    case measure=>simp[intOf];omega
   go_wp2_with fail;refine iE (by kernel_rfl) (by kernel_rfl) ?_;repeat (go_big_quiet_step ((go_at_call 82;exact O5 ((G _).mono fun e w' h=>⟨h.1,h.2.symm⟩))))
   refine wpQuiet_nil ?_;rintro _ ⟨y_,rfl⟩;go_wp2;go_roundw
   case rel=>exact⟨k+1,t,by omega,by go_num,rfl,(by first | exact a6 trivial | exact a6 rfl),by rw[Ae ht.out,hn.out];unfold qx;rw[HD.out,lp hg];rfl,ij J zc⟩
   case measure=>simp[intOf];omega
  have af:¬((z.size:Int)<(t.size:Int)):=by omega
  go_wp2_with fail;refine iE (by kernel_rfl) (by kernel_rfl) ?_;repeat (go_big_quiet_step ((go_at_call 82;exact O5 ((G _).mono fun e w' h=>⟨h.1,h.2.symm⟩))))
  refine wpQuiet_nil ?_;rintro _ ⟨y_,rfl⟩;go_wp2;go_roundw
  case rel=>exact⟨k+1,z,by omega,by go_num,rfl,R,by rw[Ae ht.out,hn.out];unfold qx;rw[decide_eq_false hg,qu];rfl,ij J zc⟩
  case measure=>simp[intOf];omega
 have a8:¬((k:Int)<(l:Int)):=by omega
 have ae:k=l:=by omega
 subst ae;have ab:z=Z:=by rw[<- HZ.out,<- hn.out,pf]
 subst ab;have j:tr wr r 0 ⟨#[]⟩:=mZ (w:=w0) HB;have R1:=iB (mZ (w':=wr) HS);have J:=ij a0 (im (q:=q) J);have l1:=j.is_le;have g0:=j.frozen 0;have g1:=j.frozen 1;have g2:=j.frozen 2;have f0:=(j.cell 0).trans rfl;have f1:=(j.cell 1).trans rfl;have f2:=(j.cell 2).trans rfl;have c1:=(R1.cell 1).trans rfl;have l0:=R1.is_le;have c9:=R1.frozen 1;by_cases h0:z.size=0
 ·have ah:=JI h0
  go_wp2_with fail;obtain⟨W,hW,x0,x1,x2,aa,aW⟩:=mV j R1 I J a7 (0) (⟨#[]⟩);rw[hW];exact jR (v:=.tuple #[.agg #[.int .i64 (0),.string (⟨#[]⟩),.int .i64 0],.int .i64 5]) (by simp[results,results114,go_sem,x0,x1,x2]) rfl ⟨aW,by rw[HX.out,iG h0];exact⟨5,rfl,by decide,by decide,by decide⟩⟩
 have ah:=Ec (Nat.pos_of_ne_zero h0);have ak:(a:Int)+(z.size:Int)<=s.size:=by omega
 go_wp2_with fail;obtain⟨v,hv,k1,k2,k3⟩:∃v,(wr.setCell ⟨q,1,none⟩ (.int .i64 (a+z.size)))=v/\tr v r 0 ⟨#[]⟩/\Sc v q s (a+z.size)/\ik (iz q w) (iz q v):=⟨_,rfl,j.qU (p:=⟨q,1,none⟩) I _,R1.jx 1 (.int .i64 (a+z.size)),by rw[jJ];exact J⟩;try rw[hv]
 obtain⟨W,hW,x0,x1,x2,aa,aW⟩:=mV k1 k2 I k3 a7 (4) (z);rw[hW];exact jR (v:=.tuple #[.agg #[.int .i64 (4),.string (z),.int .i64 0],.int .i64 0]) (by simp[results,results114,go_sem,x0,x1,x2]) rfl ⟨aW,by rw[HX.out,iV h0];exact⟨rfl,a_,aa⟩⟩
def xG:List yB:=[⟨#[40]⟩,⟨#[41]⟩,⟨#[58]⟩,⟨#[59]⟩,⟨#[44]⟩,⟨#[61]⟩,⟨#[124]⟩,⟨#[45,62]⟩,⟨#[60,62]⟩,⟨#[60,61]⟩,⟨#[62,61]⟩,⟨#[60]⟩,⟨#[62]⟩,⟨#[43]⟩,⟨#[45]⟩,⟨#[42]⟩,⟨#[47]⟩]
def oK (s:yB) (a:Nat):Option (Tk×Nat):=if mg (qM s a) then BS s a else if jw (qM s a) then vw s a else if qM s a==39 then BL s a else vy xG s a
theorem Gr.pass {q r:Nat} {s:yB} {w w0 w1:yM} {V:Option (Tk×Nat)} {e:Ending} {k0:Int} {t0:yB} (hT:Gr q s w0 V e w1) (a0:ik (iz q w) (iz q w0)) (hB:tr w0 r k0 t0) (hrq:r≠q) (hr:w<=r) :
  ∃(k:Int) (t:yB) (er:Int),e=.returned (.tuple #[.agg #[k,t,JX],er])/\tr w1 r k0 t0/\Hid (∃W,((w1.setCell r (.int .i64 k)).setCell (r,1) (.string t)).setCell (r,2) (.int .i64 0)=W/\W.cell? r=k/\W.cell? (r,1)=t/\W.cell? (r,2)=JX/\Gr q s w V (.returned (.tuple #[.agg #[k,t,JX],er])) W):=by
 obtain⟨a1,h⟩:=hT;have j:tr w1 r k0 t0:=lM ((BR hB hrq).after (w':=iz q w1) (k:=a1)) hrq;have aw:=ij a0 a1;have hn:uD (iz q w) r:=⟨by rw[iZ];exact hr⟩;have I:∀(k:Int) (t:yB),∃W,((w1.setCell r (.int .i64 k)).setCell (r,1) (.string t)).setCell (r,2) (.int .i64 0)=W/\W.cell? r=k/\W.cell? (r,1)=t/\W.cell? (r,2)=JX/\ik (iz q w) (iz q W)/\(∀b,Sc w1 q s b->Sc W q s b):=by
  intro k t;have o:=((j.jx 0 (.int .i64 k)).jx 1 (.string t)).jx 2 (.int .i64 0);exact⟨_,rfl,(o.cell 0).trans rfl,(o.cell 1).trans rfl,(o.cell 2).trans rfl,iJ (h:=iJ (h:=iJ (h:=aw) 0 _) 1 _) 2 _,fun b R=>((R.qU (p:=⟨r,0,none⟩) (ls hrq) _).qU (p:=⟨r,1,none⟩) (ls hrq) _).qU (p:=⟨r,2,none⟩) (ls hrq) _⟩
 cases V with
 |none=>
  obtain⟨er,he,h1,h2,o⟩:=h;obtain⟨W,k1,k2,k3,k4,U,k6⟩:=I 0 ⟨#[]⟩;exact⟨0,⟨#[]⟩,er,he,j,W,k1,k2,k3,k4,U,er,rfl,h1,h2,o⟩
 |some x=>
 obtain⟨J,b⟩:=x;obtain⟨he,h1,h2⟩:=h;obtain⟨W,k1,k2,k3,k4,U,k6⟩:=I J.kind J.text;exact⟨J.kind,J.text,0,he,j,W,k1,k2,k3,k4,U,rfl,h1,k6 b h2⟩
theorem Jt {q a:Nat} {s:yB} (hs:s.size<=140737488355328) (ha:a<s.size) (w:yM) (h:Sc w q s a) :
  Calls prog 67 #[.pointer q] w (Gr q s w (oK s a)):=by
 have hq:=h.lt;obtain⟨r,hr⟩:=jt w.heap.size;have J:w.heap.size<=r:=lI hr;have hB:tr (w.alloc (.cells #[JX,.string ⟨#[]⟩,JX] 150)) r 0 ⟨#[]⟩:=by have hb:=jC w 150 #[JX,.string ⟨#[]⟩,JX];rw[hr]at hb;exact hb
 obtain⟨w0,a7,a0,U⟩:∃v,w.alloc (.cells #[JX,.string ⟨#[]⟩,JX] 150)=v/\ik (iz q w) (iz q v)/\Sc v q s a:=⟨_,rfl,by rw[tf w hq];exact zc,h.alloc _⟩;rw[a7]at hB;have R:r≠q:=by omega
 have l0:=U.is_le;have c0:=(U.cell 0).trans rfl;have c1:=(U.cell 1).trans rfl;have ag:(a:Int)<(s.size:Int):=by omega
 have HB:=iB hB;have HS:=iB U;obtain⟨V,hV⟩:=jt (oK s a);rw[hV];unfold oK at hV;rw[zo ha]at hV;have HL:=fun W=>yg (s[a].toNat:Nat) W
 have HG:=fun W=>Aw (s[a].toNat:Nat) W
 obtain⟨bl,a8⟩:=jt (mg (s[a].toNat:Nat));obtain⟨bd,a_⟩:=jt (jw (s[a].toNat:Nat));obtain⟨bq,ab⟩:=jt (((s[a].toNat:Int)==39));rw[a8,a_,ab]at hV;rw[a8]at HL;rw[a_]at HG;have HL:=iB HL;have HG:=iB HG;have HV:=iB hV;go_in;go_wp2_with fail;try rw[hr]
 try rw[a7]
 refine iE (by kernel_rfl) (by kernel_rfl) ?_;repeat (go_big_quiet_step (fail))
 refine wpQuiet_nil ?_;rintro _ ⟨y_,rfl⟩;obtain⟨w1,aa,a1,ae,ad⟩:∃v,w0.more y_=v/\ik (iz q w) (iz q v)/\tr v r 0 ⟨#[]⟩/\Sc v q s a:=⟨_,rfl,ij a0 (im zc),mZ (w:=w0) HB,HS.after⟩;try rw[aa]
 go_wp2_with fail;refine (HL _).mono ?_;rintro e w2 ⟨rfl,k2⟩;have a2:=ij a1 (im (q:=q) k2);have B2:tr w2 r 0 ⟨#[]⟩:=mZ (w:=w1) ae;have S2:Sc w2 q s a:=ad.after;cases bl
 ·go_wp2_with fail
  refine (HG _).mono ?_;rintro e w3 ⟨rfl,k3⟩;have a3:=ij a2 (im (q:=q) k3);have B3:tr w3 r 0 ⟨#[]⟩:=mZ (w:=w2) B2;have S3:Sc w3 q s a:=S2.after;cases bd
  ·cases bq
   ·obtain⟨g,hg⟩:=jt (w3.heap.size)
    obtain⟨w4,a',a4,B4,S4,L4⟩:∃v,w3.alloc (.cells (xG.map Value.string).toArray 9)=v/\ik (iz q w) (iz q v)/\tr v r 0 ⟨#[]⟩/\Sc v q s a/\F4 v (some g) 17 xG:=⟨_,rfl,ij a3 (im iR),B3.alloc _,S3.alloc _,F4.Oh (l:=xG) (t:=9) (hg▸jC w3 9 (xG.map Value.string).toArray) iI⟩;have af:g≠q:=by have:=S3.lt;omega
    have a6:w3.alloc (.cells #[.string ⟨#[40]⟩,.string ⟨#[41]⟩,.string ⟨#[58]⟩,.string ⟨#[59]⟩,.string ⟨#[44]⟩,.string ⟨#[61]⟩,.string ⟨#[124]⟩,.string ⟨#[45,62]⟩,.string ⟨#[60,62]⟩,.string ⟨#[60,61]⟩,.string ⟨#[62,61]⟩,.string ⟨#[60]⟩,.string ⟨#[62]⟩,.string ⟨#[43]⟩,.string ⟨#[45]⟩,.string ⟨#[42]⟩,.string ⟨#[47]⟩] 9)=w4:=a';have HB:=iy B4;have HC:=iy (GZ hs (CQ ha) w4 S4 L4 (fun b o h=>by injection h with h;injection h with h;omega));go_wp2_with fail;try rw[a6]
    refine HC.mono ?_;intro e w9 hT;obtain⟨k,t,er,rfl,j,HE⟩:=hT.pass a4 HB R J;have l1:=j.is_le;have g0:=j.frozen 0;have g1:=j.frozen 1;have g2:=j.frozen 2;have f0:=(j.cell 0).trans rfl;have f1:=(j.cell 1).trans rfl;have f2:=(j.cell 2).trans rfl;go_wp2_with fail;obtain⟨W,hW,x0,x1,x2,hE⟩:=HE;rw[hW];have I:=HV.out;simp only[if_true,if_false,Bool.false_eq_true]at I;rw[I]at hE;exact jR (v:=.tuple #[.agg #[k,t,JX],er]) (by simp[results,results67,go_sem,x0,x1,x2]) rfl hE
   have HB:=iB B3;have HC:=iB (Ld hs ha w3 S3);go_wp2_with fail;refine HC.mono ?_;intro e w9 hT;obtain⟨k,t,er,rfl,j,HE⟩:=hT.pass a3 HB R J;have l1:=j.is_le;have g0:=j.frozen 0;have g1:=j.frozen 1;have g2:=j.frozen 2;have f0:=(j.cell 0).trans rfl;have f1:=(j.cell 1).trans rfl;have f2:=(j.cell 2).trans rfl;go_wp2_with fail;obtain⟨W,hW,x0,x1,x2,hE⟩:=HE;rw[hW];have I:=HV.out;simp only[if_true,if_false,Bool.false_eq_true]at I;rw[I]at hE;exact jR (v:=.tuple #[.agg #[k,t,JX],er]) (by simp[results,results67,go_sem,x0,x1,x2]) rfl hE
  have HB:=iB B3;have HC:=iB (Gw hs (CQ ha) w3 S3);go_wp2_with fail;refine HC.mono ?_;intro e w9 hT;obtain⟨k,t,er,rfl,j,HE⟩:=hT.pass a3 HB R J;have l1:=j.is_le;have g0:=j.frozen 0;have g1:=j.frozen 1;have g2:=j.frozen 2;have f0:=(j.cell 0).trans rfl;have f1:=(j.cell 1).trans rfl;have f2:=(j.cell 2).trans rfl;go_wp2_with fail;obtain⟨W,hW,x0,x1,x2,hE⟩:=HE;rw[hW];have I:=HV.out;simp only[if_true,if_false,Bool.false_eq_true]at I;rw[I]at hE;exact jR (v:=.tuple #[.agg #[k,t,JX],er]) (by simp[results,results67,go_sem,x0,x1,x2]) rfl hE
 have HB:=iB B2;have HC:=iB (Lb hs (CQ ha) w2 S2);go_wp2_with fail;refine HC.mono ?_;intro e w9 hT;obtain⟨k,t,er,rfl,j,HE⟩:=hT.pass a2 HB R J;have l1:=j.is_le;have g0:=j.frozen 0;have g1:=j.frozen 1;have g2:=j.frozen 2;have f0:=(j.cell 0).trans rfl;have f1:=(j.cell 1).trans rfl;have f2:=(j.cell 2).trans rfl;go_wp2_with fail;obtain⟨W,hW,x0,x1,x2,hE⟩:=HE;rw[hW];have I:=HV.out;simp only[if_true,if_false,Bool.false_eq_true]at I;rw[I]at hE;exact jR (v:=.tuple #[.agg #[k,t,JX],er]) (by simp[results,results67,go_sem,x0,x1,x2]) rfl hE
theorem nF {w w':yM} {B n size:Nat} {t:TypeId} {r:Value} {ys:zO} (own:w.ownsRow B t size r n ys) (h:ik w w'):w'.ownsRow B t size r n ys:=by
 refine⟨own.1,own.2.imp id ?_⟩;rintro⟨g,a1,U,hv,J,I,j⟩;have o:g<w:=by
  rcases qa g w with R | R
  ·exact R
  rw[FF R]at I;cases I
 exact⟨g,a1,U,hv,J,(h.below.block g o).trans I,j⟩
def L2 (A:zA) (c:Nat) (l:List Tx):Tx:=.mk 0 0 0 0 ⟨#[]⟩ A c l
theorem ki {w:yM} {g:Nat} (hg:w=g) (o:Array Value) (t:TypeId) (news:zO) (h:o.toList=news) (n:Nat) (size:Nat) (hn:news=n*size):oZ (w.alloc (.cells o t)) (g+1) size (some g) n news:=by
 subst hg;refine⟨hn,fun _=>⟨_,rfl,by simp,fun j u I=>?_⟩⟩;rw[yb,(jC w t o).cell,<- Array.getElem?_toList,h];simpa using I
theorem ny {w0 U w3:yM} (h:∃y,w3=U.more y) (a:ik w0 U):ik w0 w3:=by obtain⟨y,rfl⟩:=h;infer_instance
instance:Inhabited Tx:=⟨.mk 0 0 0 0 ⟨#[]⟩ none 0 []⟩
def sH:Nat->yB->Nat->Option (List Tk)
 |0,_,_=>none
 |f+1,s,a=>if uh (s.size+1) s a=s.size then some [] else match oK s (uh (s.size+1) s a) with
  |none=>none
  |some (t,c)=>(sH f s c).map (t::·)
theorem Gz:∀(f:Nat) (s:yB) (a:Nat),a<=uh f s a
 |0,s,a=>js _
 |f+1,s,a=>by
  unfold uh;split
  ·have:=Gz f s (a+jv ke s a+jv xj s (a+jv ke s a))
   omega
  omega
theorem DU (p:Int->Bool) {s:yB} {a:Nat} (h:a<s.size) (hp:p (s[a].toNat:Nat)=true):0<jv p s a:=by rw[tp p h hp];omega
theorem FP {s:yB} {b c:Nat} {t:Tk} (hb:b<s.size) (h:oK s b=some (t,c)):b<c/\c<=s.size/\t.text.size<=s.size:=by
 unfold oK at h;rw[zo hb]at h;split at h
 ·rename_i hl
  unfold BS Bb at h;split at h
  ·cases h
  injection h with h
  injection h with j I
  have o:=oM jQ s b (CQ hb);have R:=DU jQ hb (by unfold jQ;rw[hl];rfl);refine⟨iu,iu,?_⟩;rw[<- j];show (s.extract b _).size<=_
  rw[rr o];omega
 split at h
 ·rename_i hl
  unfold vw rh at h;have o:=oM jw s b (CQ hb);have R:=DU jw hb hl;split at h
  ·cases h
  split at h
  ·cases h
  injection h with h
  injection h with j I
  refine⟨by omega,by omega,?_⟩;rw[<- j];show (s.extract b _).size<=_
  rw[rr o];omega
 split at h
 ·unfold BL at h
  split at h
  ·rename_i h5
   injection h with h
   injection h with j I
   have o:=oM yc s (b+1) hb;refine⟨iu,iu,?_⟩;rw[<- j];show (s.extract (b+1) _).size<=_
   rw[rr o];omega
  cases h
 unfold vy at h;split at h
 ·cases h
 injection h with h
 injection h with j I
 have o:=Kp (CQ hb) xG;revert j I o
 rename_i J
 revert J;generalize ux (s.data.toList.drop b) xG=z;intro J j I o;refine⟨iu,iu,?_⟩;rw[<- j];show z.size<=_
 omega
structure Om (w:yM) (b o:Nat) (x:Tk):Prop where
 c0:w.cell? (b,o)=x.kind
 c1:w.cell? (b,o+1)=x.text
 c2:∃n:Nat,n<=65536/\w.cell? (b,o+2)=n
 nm:x.text.size<=65536
theorem xB:tO Om:=fun w w' b o y hb hlt h=>⟨(mH hb hlt).trans h.c0,(mH hb hlt).trans h.c1,(by obtain⟨n,hn,h2⟩:=h.c2;exact⟨n,hn,(mH hb hlt).trans h2⟩),h.nm⟩
theorem GC:Ai Om:=fun W w b o y k h=>⟨k.cell _ _ _ h.c0,k.cell _ _ _ h.c1,(by obtain⟨n,hn,h2⟩:=h.c2;exact⟨n,hn,k.cell _ _ _ h2⟩),h.nm⟩
theorem ir.so {α:Type} {sz:Nat} {P:yM->Nat->Nat->α->Prop} {cells:α->zO} (hc:∀y,(cells y).length=sz) {w:yM} {base:Nat} {T:TypeId} {v:Value} {l:List α} (own:w.ownsRow base T sz v l (l.flatMap cells)) (hl:l.length<=140737488355328)
  (hP:∀b o y,b<w.heap.size->y∈l->(∀j u,(cells y)[j]?=some u->w.cell? ⟨b,o+j,none⟩=some u)->P w b o y):∃A c,v=.slice A l.length c/\ir sz P w ⟨A,c,l⟩:=by
 obtain⟨A,c,rfl,h1,h2⟩:=ji own;refine⟨A,c,rfl,⟨?_,h1,h2,hl⟩⟩;rcases own.2 with⟨hv,h0⟩ | ⟨g,cap,cur,hv,hbg,hh,hnc,hcap,hsz,htk⟩
 ·exact .inl (B_ h0)
 injection hv with hA
 subst hA;have I:g<w:=by
  rcases qa g w with R | R
  ·exact R
  rw[FF R]at hh;cases hh
 refine .inr ⟨g,0,rfl,I,fun i y U=>hP g _ y I (om U) fun j u hu=>?_⟩;have hj:j<sz:=by rw[<- hc y];exact (rq.1 hu).1
 have J:∀(l:List α) (i:Nat),l[i]?=some y->(l.flatMap cells)[i*sz+j]?=some u:=by
  intro l;induction l with
  |nil=>intro i h;simp at h
  |cons a l ih=>
  intro i h;rw[pZ];cases i with
  |zero=>
   simp at h;subst h;rw[zH,t_,wk (by rw[hc];exact hj)];exact hu
  |succ i=>
  rw[xK (by rw[hc,Nat.add_mul];omega),hc,show (i+1)*sz+j-sz=i*sz+j by rw[Nat.add_mul];omega];exact ih i (by simpa using h)
 have:=own.cells (g:=g) rfl (i*sz+j) u (J l i U);rw[yb]at this;rwa [t_]at this⊢
def vq (x:Tk×Nat):zO:=[x.1.kind,x.1.text,(x.2:Nat)]
theorem ir.map {α β:Type} {sz:Nat} {P:yM->Nat->Nat->α->Prop} {P':yM->Nat->Nat->β->Prop} {w:yM} {A:zA} {c:Nat} {l:List α} (f:α->β) (h:ir sz P w ⟨A,c,l⟩) (hf:∀b o y,y∈l->P w b o y->P' w b o (f y)):ir sz P' w ⟨A,c,l.map f⟩:=by
 refine⟨?_,by simpa using h.le,h.cap,by simpa using h.len⟩;rcases h.cells with e | ⟨b,p,e,hlt,hc⟩
 ·simp only[]at e;subst e;exact .inl rfl
 refine .inr ⟨b,p,e,hlt,fun i y j=>?_⟩;simp only[JL,Option.map_eq_some_iff]at j;obtain⟨x,I,rfl⟩:=j;exact hf _ _ _ (om I) (hc i x I)
section
variable {q:Nat} {w w0 w':yM} {row:Option Nat}
theorem z' (h:w.grownBy w' row):(iz q w).grownBy (iz q w') row:=by
 refine⟨h.os,h.tape,h.output,by rw[iZ,iZ];exact h.size,fun b j I=>?_⟩;rw[iZ]at j;by_cases o:b=q
 ·subst o
  rw[tN w j,tN w' (rO j h.size)]
 rw[km w o,km w' o];exact h.block b j I
theorem NA (a0:ik w w0) (hq:w<=q) (h:ik (iz q w0) (iz q w')):ik w w':=by
 refine⟨⟨h.below.os.trans a0.below.os,h.below.tape.trans a0.below.tape,h.below.output.trans a0.below.output,?_,fun b o=>?_⟩⟩
 ·have:=h.below.size
  rw[iZ,iZ]at this;exact jW a0.below.size this
 have j:b≠q:=iu;have I:=h.below.block b (by rw[iZ];exact rO o a0.below.size);rw[km w' j,km w0 j]at I;exact I.trans (a0.below.block b o)
end
theorem PD:(prog.info? 150).map (fun i=>(i.zero,i.size,i.bytes))=some (some (.agg #[JX,.string ⟨#[]⟩,JX]),3,32):=by kernel_rfl
theorem L_ (ts:List (Tk×Nat)) (x:Tk×Nat):ts.flatMap vq++vq x=(ts++[x]).flatMap vq:=by simp
def RU (w:yM) (r:Option (List Tk)) (e:Ending) (w':yM):Prop:=ik w w'/\match r with
 |some ts=>∃A c,e=.returned (.tuple #[.slice A ts c,JX,JX])/\ir 3 Om w' ⟨A,c,ts⟩/\ts.length<=65536
 |none=>∃at_ er:Int,e=.returned (.tuple #[(),at_,er])/\er≠0/\0<=er/\er<=100/\0<=at_/\at_<=65536
noncomputable def nP (s:yB):Option (List Tk):=if 65536<s.size then none else sH (s.size+1) s 0
theorem Nn (s:yB) (hs:s.size<=140737488355328) (w:yM) :
  Calls prog 29 #[s] w (RU w (nP s)):=by
 by_cases R:65536<s.size
 ·have ae:(65536:Int)<(s.size:Int):=iu
  go_in;go_wp2;exact jR (v:=.tuple #[(),JX,.int .i64 3]) (by simp[results,results29,go_sem]) rfl ⟨zc,by unfold nP;rw[iG R];exact⟨0,3,rfl,by decide,by decide,by decide,by decide,by decide⟩⟩
 have ae:¬((65536:Int)<(s.size:Int)):=iu;obtain⟨V,hV⟩:=jt (nP s);rw[hV];unfold nP at hV;rw[iV R]at hV;have I:=iy hV;obtain⟨q,hq⟩:=jt (w.heap.size);obtain⟨w0,ah,a0,aq⟩:∃v,w.alloc (.cells #[s,JX] 148)=v/\ik w v/\Sc v q s 0:=⟨_,rfl,iR,by rw[<- hq];exact jC ..⟩;have HS:=iy aq;have aC:w0=q+1:=by rw[<- ah,iH,hq]
 go_in;go_wp2_with fail;go_loopw [6] (fun ag wr=>∃(k f:Nat) (j:List (Tk×Nat)) (n:Nat),k<=s.size/\s.size-k<f/\n<=k/\Hid (j=n)/\Hid ((sH f s k).map (j.map Prod.fst++·)=V)/\Hid (∀x∈j,x.1.text.size<=65536/\x.2<=65536)/\Hid (Sc wr q s k)/\Hid (wr.ownsRow (q+1) 150 3 ag n (j.flatMap vq))/\ik (iz q w0) (iz q wr)) (fun _ wr=>s.size-lO wr q 1)
 ·exact⟨0,s.size+1,[],0,iu,iu,iu,rfl,by show _=_;rw[<- I.out];cases sH (s.size+1) s 0<;>rfl,fun x J=>by simp at J,HS,FL ..,iq _⟩
 case round=>
 obtain⟨k,f,j,n,hk,hf,av,hn,I,HT,HR,HO,aw⟩:=hrel;obtain⟨f,rfl⟩:∃g,f=g+1:=⟨f-1,iu⟩;have d1:=iy (je ((HR.cell 1).trans rfl));obtain⟨A,c,rfl,ax,az⟩:=ji HO;have U:=NC hs hk (f:=s.size+1) (by omega) wr HR;have hv:=I.out;unfold sH at hv;have aj:=Gz (s.size+1) s k;generalize uh (s.size+1) s k=b at U hv aj;have I:=iy hv;go_wp2_with fail;refine U.mono ?_;rintro e w1 ⟨rfl,aA,R1,a1⟩;have O1:=tM (nF (sG HO (Nat.lt_succ_self q)) a1) (Nat.lt_succ_self q);have a1:=ij aw a1;have R1:=iy R1;have O1:=iB O1;have l0:=R1.is_le;have c0:=(R1.cell 0).trans rfl;have c1:=(R1.cell 1).trans rfl;by_cases hb:b=s.size
 ·have ae:(b:Int)=(s.size:Int):=iu
  have af:=HT;go_wp2_with fail;have a8:some (j.map Prod.fst)=V:=by have h9:=I.out;rw[iG hb]at h9;simpa using h9
  have a6:=hn.out;have ab:∃A' c',Value.slice A n c=.slice A' j.length c'/\ir 3 Om w1 ⟨A',c',j.map Prod.fst⟩:=by
   obtain⟨A',c',h1,h2⟩:=ir.so (P:=fun w b o (x:Tk×Nat)=>Om w b o x.1) (sz:=3) (cells:=vq) (fun y=>rfl) (l:=j) (by rw[a6];exact O1) (by omega) (fun b o y hb hy h=>⟨h 0 _ rfl,h 1 _ rfl,⟨y.2,(af y hy).2,h 2 _ rfl⟩,(af y hy).1⟩);exact⟨A',c',h1,h2.map Prod.fst fun b o y _ h=>h⟩
  obtain⟨A',c',h1,h2⟩:=ab;injection h1 with e1 e2 e3
  subst e1 e3;exact jR (v:=.tuple #[(A,n,c),JX,JX]) (by simp[results,results29,go_sem]) rfl ⟨NA a0 (lI hq) a1,by rw[<- a8];exact⟨A,c,by rw[pE,a6],h2,by rw[pE,a6];omega⟩⟩
 have ao:¬((b:Int)=(s.size:Int)):=by omega
 have aB:((b:Int)==(s.size:Int))=false:=by rw[beq_eq_false_iff_ne];exact ao
 have aa:b<s.size:=by omega
 have U:=Jt hs aa w1 R1;have hv:((match oK s b with | none=>none | some (t,c)=>(sH f s c).map (t::·):Option (List Tk)).map (j.map Prod.fst++·))=V:=by have h9:=I.out;rw[iV hb]at h9;exact h9
 have a7:∀t c,oK s b=some (t,c)->b<c/\c<=s.size/\t.text.size<=s.size:=fun t c h=>FP aa h
 generalize oK s b=X at U hv a7;have U:=iB U;have I:=iB hv;have HM:=iB a7;clear hv a7;go_wp2_with fail;refine U.mono ?_;clear U;rintro e w2 ⟨a2,h⟩;have O2:=tM (nF (sG O1 (Nat.lt_succ_self q)) a2) (Nat.lt_succ_self q);have a2:=ij a1 a2;have O2:=iy O2;clear O1 R1 l0 c0 c1;cases X with
 |none=>
  obtain⟨er,rfl,ad,al,ak⟩:=h;have ay:(er != 0)=true:=by rw[bne_iff_ne];exact ad
  have a8:none=V:=I;clear I;go_wp2;exact jR (v:=.tuple #[(),(b:Nat),er]) (by simp[results,results29,go_sem]) rfl ⟨NA a0 (lI hq) (tD a2 iR),by rw[<- a8];exact⟨b,er,rfl,ad,al,ak,iu,iu⟩⟩
 |some x=>
 obtain⟨t,c2⟩:=x;obtain⟨rfl,an,R2⟩:=h;obtain⟨m1,m2,m3⟩:=HM t c2 rfl;have R2:=iy R2;clear HM;obtain⟨w3,ar,a3,b3,s3,O3,R3⟩:∃v,w2.alloc (.cells #[t.kind,t.text,(b:Nat)] 150)=v/\ik (iz q w0) (iz q v)/\iP v w2 150 #[t.kind,t.text,(b:Nat)]/\v.heap.size=w2+1/\Hid (v.ownsRow (q+1) 150 3 (.slice A n c) n (j.flatMap vq))/\Hid (Sc v q s c2):=⟨_,rfl,ij a2 (im zc),jC ..,iH ..,O2.alloc _,R2.alloc _⟩;have au:q+1<=w3:=R3.lt;clear s3 O2 R2;have l3:=b3.is_le;have y0:=(b3.cell 0).trans rfl;have y1:=(b3.cell 1).trans rfl;have y2:=(b3.cell 2).trans rfl;go_wp2_with (at_builtin;obtain⟨i0,hi0,hz0,hz1,hz2⟩:=info_parts PD;refine ka (w3.alloc (.cells #[t.kind,t.text,(b:Nat)] 150)) rfl (.tmp 41) (.tmp 43) 91 rfl (q+1) 150 i0 _ 3 _ underlying91 hi0 hz0 hz1 hz2 rfl (by decide) _ n _ rfl (O3.out.alloc _) _ _ 1 1 [t.kind,t.text,(b:Nat)] rfl (ki (w:=w3) rfl #[t.kind,t.text,(b:Nat)] 150 _ rfl 1 3 rfl) (by intro u hu;simp only[la]at hu;rcases hu with rfl | rfl | rfl<;>rfl) (by unfold maxLen;omega) (by omega) (by rw[iH];omega) ?_;intro r4 W4 own4 hg4 hnx4;clear hi0 hz0 hz1 hz2;have own4:=iB own4;have hg4:=iB hg4;clear hnx4)
 have a':∀g,(Value.slice A n c).ownBlock=some g->q+1<=g:=fun g hg=>(O3.out.lt g hg).1
 have ai:some q≠(Value.slice A n c).ownBlock:=fun e=>by have:=a' q e.symm;omega
 have R4:Sc W4 q s c2:=oY (R3.out.alloc (.cells #[t.kind,t.text,(b:Nat)] 150)) hg4.out ai;have a4:ik (iz q w0) (iz q W4):=vm (h:=tD a3 (w':=w3.alloc (.cells #[t.kind,t.text,(b:Nat)] 150)) zc) (sG (O3.out.alloc (.cells #[t.kind,t.text,(b:Nat)] 150)) (Nat.lt_succ_self q)) (by rw[iZ];omega) (z' hg4.out);have a_:W4.ownsRow (q+1) 150 3 r4 (n+1) ((j++[(t,b)]).flatMap vq):=by rw[<- L_];exact own4
 go_roundw
 case rel=>
  refine⟨c2,f,j++[(t,b)],n+1,an,iu,iu,by (show _=_;rw[mo,hn.out];rfl),?_,?_,R4,a_,a4⟩
  ·show _=_
   rw[<- I.out];cases sH f s c2 with
   |none=>rfl
   |some l=>simp
  intro x J;rcases ue.1 J with J | J
  ·exact HT x J
  simp only[la]at J;subst J;exact⟨by show t.text.size<=65536;omega,by show b<=65536;omega⟩
 case measure=>(rw[je ((R4.cell 1).trans rfl),d1.out];omega)
abbrev KK:=@ir.so
inductive Pc where
 |tk (t:Tk)
 |sp (c:UInt8)
def Dt (t:Tk):List UInt8:=if t.kind=5 then 39::(t.text.data.toList++[39]) else t.text.data.toList
def iY:List Pc->List UInt8
 |[]=>[]
 |.tk t::ps=>Dt t++iY ps
 |.sp c::ps=>c::iY ps
def toks:List Pc->List Tk
 |[]=>[]
 |.tk t::ps=>t::toks ps
 |.sp _::ps=>toks ps
theorem iC:∀(a b:List Pc),iY (a++b)=iY a++iY b
 |[],b=>rfl
 |.tk t::a,b=>by show Dt t++iY (a++b)=Dt t++iY a++iY b;rw[iC a b,kD]
 |.sp c::a,b=>by show c::iY (a++b)=c::(iY a++iY b);rw[iC a b]
theorem iN:∀(a b:List Pc),toks (a++b)=toks a++toks b
 |[],b=>rfl
 |.tk t::a,b=>by show t::toks (a++b)=t::(toks a++toks b);rw[iN a b]
 |.sp c::a,b=>iN a b
def RM (s:yB):Bool:=decide (0<s.size)&&decide (s.size<=40)&&mg (s.data.toList.headD 0).toNat&&s.data.toList.all (fun c=>jQ c.toNat)&&OM s
def Ri (s:yB):Bool:=decide (0<s.size)&&s.data.toList.all (fun c=>jw c.toNat)&&!(decide (1<s.size)&&qM s 0==48)&&!(decide (5<s.size)||(decide (s.size=5)&&Ft s))
def P7 (t:Tk):Bool:=
 if t.kind=1 then kT t.text else if t.kind=2 then Ri t.text else if t.kind=3 then RM t.text else if t.kind=4 then xG.any (fun s=>s.data.toList==t.text.data.toList) else if t.kind=5 then t.text.data.toList.all (fun c=>yc c.toNat) else false
def wa (t:Tk) (c:UInt8):Bool:=
 if t.kind=4 then !(t.text.data.toList==[45]&&(c==45||c==62))&&!(t.text.data.toList==[60]&&(c==61||c==62))&&!(t.text.data.toList==[62]&&c==61)
 else if t.kind=5 then true else !jQ c.toNat
def zD (c:UInt8) (ps:List Pc):UInt8:=(iY ps).headD c
def zE (c:UInt8):List Pc->Bool
 |[]=>true
 |.tk t::ps=>P7 t&&wa t (zD c ps)&&zE c ps
 |.sp b::ps=>ke b.toNat&&zE c ps
theorem Jo (c:UInt8) (a b:List Pc):zD c (a++b)=zD (zD c b) a:=by
 unfold zD;rw[iC];cases iY a<;>rfl
theorem se (c:UInt8):∀(a b:List Pc),zE c (a++b)=(zE (zD c b) a&&zE c b)
 |[],b=>by show zE c b=(true&&zE c b);rw[xI]
 |.tk t::a,b=>by
  show (P7 t&&wa t (zD c (a++b))&&zE c (a++b))=(P7 t&&wa t (zD (zD c b) a)&&zE (zD c b) a&&zE c b)
  rw[se c a b,Jo];simp only[Bool.and_assoc]
 |.sp x::a,b=>by
  show (ke x.toNat&&zE c (a++b))=(ke x.toNat&&zE (zD c b) a&&zE c b)
  rw[se c a b];simp only[Bool.and_assoc]
theorem Dq {p:UInt8->Bool} {a r:List UInt8} (ha:a.all p=true) (hr:p (r.headD 32)=false):(a++r).takeWhile p=a:=by
 induction a with
 |nil=>
  cases r with
  |nil=>rfl
  |cons c r=>simp only[List.headD_cons]at hr;simp[CZ,hr]
 |cons c a ih=>
 simp only[Bh,mT]at ha;simp only[lP,CZ,ha.1,if_true,ih ha.2]
theorem Ah {p:Int->Bool} {s:yB} {b:Nat} {a r:List UInt8} (h:s.data.toList.drop b=a++r) (ha:a.all (fun c=>p c.toNat)=true) (hr:p ((r.headD 32).toNat:Nat)=false):jv p s b=a.length:=by
 unfold jv;rw[h,Dq ha hr]
theorem wD {s t:yB} {b:Nat} {r:List UInt8} (h:s.data.toList.drop b=t.data.toList++r):s.extract b (b+t.size)=t:=by
 have e:(s.extract b (b+t.size)).data.toList=t.data.toList:=by
  rw[Lib.extract_data,show b+t.size-b=t.size by omega,h];rw[List.take_append_of_le_length (by rw[jr];exact js _)];rw[<- jr,pf]
 cases hx:s.extract b (b+t.size) with
 |mk d=>
 rw[hx]at e;cases t with
 |mk d'=>
 congr 1;exact Array.toList_inj.1 e
theorem ve {s:yB} {b:Nat} {c:UInt8} {r:List UInt8} (h:s.data.toList.drop b=c::r):qM s b=c.toNat:=by unfold qM;rw[h];rfl
theorem wK {s:yB} {b:Nat} {a r:List UInt8} (h:s.data.toList.drop b=a++r):s.data.toList.drop (b+a)=r:=by
 rw[<- List.drop_drop,h,List.drop_left]
theorem uq {s:yB} (h:0<s.size):∃c l,s.data.toList=c::l:=by
 cases hs:s.data.toList with
 |nil=>rw[<- jr,hs]at h;simp at h
 |cons c l=>exact⟨c,l,rfl⟩
theorem MY {p:Nat->Bool} (h:(List.range 256).all p=true) (c:UInt8):p c.toNat=true:=
 Bk.1 h _ (List.mem_range.2 c.toNat_lt)
theorem Er (c:UInt8):((mg c.toNat&&ke c.toNat)||(mg c.toNat&&jw c.toNat)||(mg c.toNat&&(c.toNat==39||c.toNat==45))||(jw c.toNat&&ke c.toNat)||(jw c.toNat&&(c.toNat==39||c.toNat==45)))=false:=by
 have:=MY (p:=fun c:Nat=>!((mg c&&ke c)||(mg c&&jw c)||(mg c&&(c==39||c==45))||(jw c&&ke c)||(jw c&&(c==39||c==45)))) (by decide +kernel) c;rw[IU]at this;exact this
theorem Ew {s:yB} {b:Nat} {t:yB} {r:List UInt8} (h:s.data.toList.drop b=t.data.toList++r) (h0:0<t.size) (h40:t.size<=40) (hl:mg (t.data.toList.headD 0).toNat=true) (hi:t.data.toList.all (fun c=>jQ c.toNat)=true) (hr:jQ ((r.headD 32).toNat:Nat)=false) :
  oK s b=some (⟨if OM t then 3 else 1,t⟩,b+t.size):=by
 obtain⟨c,l,j⟩:=uq h0;rw[j,List.headD_cons]at hl;have I:qM s b=c.toNat:=ve (r:=l++r) (by rw[h,j];rfl);have o:jv jQ s b=t.size:=by rw[Ah h hi hr,jr]
 unfold oK;rw[I,iG hl];unfold BS;rw[o,wD h];unfold Bb;rw[iV iu]
theorem H' {s:yB} {b:Nat} {t:yB} {r:List UInt8} (h:s.data.toList.drop b=t.data.toList++r) (ht:Ri t=true) (hr:jQ ((r.headD 32).toNat:Nat)=false) :
  oK s b=some (⟨2,t⟩,b+t.size):=by
 unfold Ri at ht;simp only[mT,decide_eq_true_eq,IU]at ht;obtain⟨⟨⟨h0,o⟩,h1⟩,h5⟩:=ht;obtain⟨c,l,R⟩:=uq h0;have j:jw c.toNat=true:=by rw[R]at o;simp only[Bh,mT]at o;exact o.1
 have J:mg c.toNat=false:=by
  have:=Er c;cases hx:mg c.toNat with
  |false=>rfl
  |true=>rw[hx,j]at this;simp at this
 have hb:qM s b=c.toNat:=ve (r:=l++r) (by rw[h,R];rfl);have I:jw ((r.headD 32).toNat:Nat)=false:=by
  unfold jQ at hr;simp only[Bool.or_eq_false_iff]at hr;exact hr.1.2
 have U:jv jw s b=t.size:=by rw[Ah h o I,jr]
 unfold oK;rw[hb,J,iV iI,iG j];unfold vw;rw[U,wD h];unfold rh;rw[h1,iV iI,h5,iV iI]
theorem LL {s:yB} {b:Nat} {t:yB} {r:List UInt8} (h:s.data.toList.drop b=39::(t.data.toList++[39])++r) (ht:t.data.toList.all (fun c=>yc c.toNat)=true) :
  oK s b=some (⟨5,t⟩,b+(t.size+2)):=by
 have U:=ve (c:=39) (r:=t.data.toList++[39]++r) (by rw[h];rfl);have I:s.data.toList.drop (b+1)=t.data.toList++(39::r):=by
  rw[<- List.drop_drop,h];simp
 have R:jv yc s (b+1)=t.size:=by rw[Ah I ht (show yc (((39:UInt8).toNat:Nat):Int)=false by decide),jr]
 have o:s.data.toList.drop (b+1+t.size)=39::r:=by
  have:=wK I;rwa [jr]at this
 have h3:=ve o;have j:b+1+t.size<s.size:=by
  rcases qa (b+1+t.size) s.size with J | J
  ·exact J
  rw[Bn (by rw[jr];exact J)]at o;simp at o
 unfold oK;rw[U,iV iI,iV iI,iG iI];unfold BL;rw[R,wD I,iG ⟨j,h3⟩,show b+1+t.size+1=b+(t.size+2) by omega]
theorem ML {t:yB} {r:List UInt8} (ht:(xG.any (fun s=>s.data.toList==t.data.toList))=true) (hs:wa ⟨4,t⟩ (r.headD 32)=true):(ux (t.data.toList++r) xG).data.toList=t.data.toList/\0<t.size/\(∀c l,t.data.toList++r=c::l->mg c.toNat=false/\jw c.toNat=false/\((c.toNat:Nat)==(39:Int))=false/\ke c.toNat=false)/\¬(Lib.hasPrefix (t.data.toList++r) [45,45]=true):=by
 rw[<- jr];unfold wa at hs;rw[iG rfl]at hs;simp only[xG,List.any_cons,List.any_nil,Bool.or_false,uG,beq_iff_eq]at ht;generalize t.data.toList=x at ht hs;rcases r with _ | ⟨c,r⟩<;>simp only[List.headD_nil,List.headD_cons]at hs <;>
 rcases ht with ht | ht | ht | ht | ht | ht | ht | ht | ht | ht | ht | ht | ht | ht | ht | ht | ht<;>subst ht <;>
 (refine⟨?_,iI,?_,?_⟩
  ·first
   |(simp[ux,xG,qx,Lib.hasPrefix,List.isPrefixOf,ByteArray.size];done)
   |(simp at hs;have j:=hs;simp only[@eq_comm _ c]at j;simp[ux,xG,qx,Lib.hasPrefix,List.isPrefixOf,hs,j,ByteArray.size])
  ·intro c l h
   simp only[lP,sb,List.cons.injEq]at h;obtain⟨rfl,-⟩:=h;decide
  first
  |(simp[Lib.hasPrefix,List.isPrefixOf];done)
  |(simp at hs;have j:=hs;simp only[@eq_comm _ c]at j;simp[Lib.hasPrefix,List.isPrefixOf,hs,j]))
theorem Fe {t:Tk} (h:t.kind≠5):Dt t=t.text.data.toList:=iV h
theorem I5 {s:yB} {b:Nat} {t:Tk} {r:List UInt8} (h:s.data.toList.drop b=Dt t++r) (hv:P7 t=true) (hs:wa t (r.headD 32)=true) :
  oK s b=some (t,b+(Dt t).length)/\0<(Dt t).length/\(∀c l,Dt t++r=c::l->ke c.toNat=false)/\Lib.hasPrefix (Dt t++r) [45,45]=false:=by
 obtain⟨k,x⟩:=t;unfold P7 at hv;simp only[]at hv;have j:∀c l,Dt ⟨k,x⟩=c::l->(mg c.toNat=true\/jw c.toNat=true)->(∀c l,Dt ⟨k,x⟩++r=c::l->ke c.toNat=false)/\Lib.hasPrefix (Dt ⟨k,x⟩++r) [45,45]=false:=by
  intro c l o a6;rw[o];have a1:=Er c;have h1:ke c.toNat=false:=by
   cases hx:ke c.toNat with
   |false=>rfl
   |true=>rcases a6 with h | h<;>(rw[hx,h]at a1;simp at a1)
  have h2:c≠45:=by
   intro e;subst e;rcases a6 with h | h<;>exact absurd h iI
  refine⟨fun c' l' e=>?_,?_⟩
  ·injection e with e1 e2
   rw[<- e1];exact h1
  simp[Lib.hasPrefix,List.isPrefixOf,ls h2]
 by_cases k1:k=1
 ·subst k1
  rw[iG rfl]at hv;unfold kT at hv;simp only[mT,decide_eq_true_eq,IU]at hv;obtain⟨⟨⟨⟨I,R⟩,J⟩,hi⟩,hk⟩:=hv;have e:Dt ⟨1,x⟩=x.data.toList:=Fe (show (1:Int)≠5 by decide);obtain⟨c,l,o⟩:=uq I;have U:jQ ((r.headD 32).toNat:Nat)=false:=by
   unfold wa at hs;rw[iV (show ¬(1:Int)=4 by decide),iV (show ¬(1:Int)=5 by decide)]at hs;simpa using hs
  have:=Ew (by rw[h,e]) I R J hi U;rw[hk,iV iI]at this;rw[o,List.headD_cons]at J;refine⟨by rw[e];exact this,by rw[e];exact I,j c l (e.trans o) (.inl J)⟩
 by_cases k2:k=2
 ·subst k2
  rw[iV iI,iG rfl]at hv;have e:Dt ⟨2,x⟩=x.data.toList:=Fe (show (2:Int)≠5 by decide);have I:0<x.size/\x.data.toList.all (fun c=>jw c.toNat)=true:=by
   unfold Ri at hv;simp only[mT,decide_eq_true_eq]at hv;exact⟨hv.1.1.1,hv.1.1.2⟩
  obtain⟨c,l,o⟩:=uq I.1;have hd:jw c.toNat=true:=by have:=I.2;rw[o]at this;simp only[Bh,mT]at this;exact this.1
  have U:jQ ((r.headD 32).toNat:Nat)=false:=by
   unfold wa at hs;rw[iV (show ¬(2:Int)=4 by decide),iV (show ¬(2:Int)=5 by decide)]at hs;simpa using hs
  exact⟨by rw[e];exact H' (by rw[h,e]) hv U,by rw[e];exact I.1,j c l (e.trans o) (.inr hd)⟩
 by_cases k3:k=3
 ·subst k3
  rw[iV (by decide),iV (by decide),iG rfl]at hv;unfold RM at hv;simp only[mT,decide_eq_true_eq]at hv;obtain⟨⟨⟨⟨I,R⟩,J⟩,hi⟩,hk⟩:=hv;have e:Dt ⟨3,x⟩=x.data.toList:=Fe (show (3:Int)≠5 by decide);obtain⟨c,l,o⟩:=uq I;have U:jQ ((r.headD 32).toNat:Nat)=false:=by
   unfold wa at hs;rw[iV (show ¬(3:Int)=4 by decide),iV (show ¬(3:Int)=5 by decide)]at hs;simpa using hs
  have:=Ew (by rw[h,e]) I R J hi U;rw[hk,iG rfl]at this;rw[o,List.headD_cons]at J;refine⟨by rw[e];exact this,by rw[e];exact I,j c l (e.trans o) (.inl J)⟩
 by_cases k4:k=4
 ·subst k4
  rw[iV (by decide),iV (by decide),iV (by decide),iG rfl]at hv;have e:Dt ⟨4,x⟩=x.data.toList:=Fe (show (4:Int)≠5 by decide);obtain⟨h1,h2,h3,h4⟩:=ML hv hs;rw[e]at h⊢;refine⟨?_,h2,fun c l o=>(h3 c l o).2.2.2,by simpa using h4⟩;obtain⟨c,l,o⟩:=uq h2;obtain⟨g1,g2,g3,-⟩:=h3 c (l++r) (by rw[o];rfl);have hb:qM s b=c.toNat:=ve (r:=l++r) (by rw[h,o];rfl);unfold oK;rw[hb,g1,iV (by decide),g2,iV (by decide),g3,iV (by decide)];unfold vy;rw[h];have a7:(ux (x.data.toList++r) xG)=x:=by
   generalize ux (x.data.toList++r) xG=y at h1;cases x;cases y;congr 1;exact Array.toList_inj.1 h1
  rw[a7,iV (by omega)];rfl
 by_cases k5:k=5
 ·subst k5
  rw[iV (by decide),iV (by decide),iV (by decide),iV (by decide),iG rfl]at hv;have e:Dt ⟨5,x⟩=39::(x.data.toList++[39]):=iG rfl;rw[e]at h⊢;refine⟨?_,by simp,fun c l o=>?_,?_⟩
  ·rw[LL h hv]
   simp only[py,mo,wJ,jr]
  ·simp only[lP,List.cons.injEq]at o
   obtain⟨rfl,-⟩:=o;decide
  simp[Lib.hasPrefix,List.isPrefixOf]
 rw[iV k1,iV k2,iV k3,iV k4,iV k5]at hv;cases hv
theorem BD {p:UInt8->Bool} {a r:List UInt8} (ha:a.all p=true) (hr:∀c l,r=c::l->p c=false):(a++r).takeWhile p=a:=by
 induction a with
 |nil=>
  cases r with
  |nil=>rfl
  |cons c r=>simp[CZ,hr c r rfl]
 |cons c a ih=>
 simp only[Bh,mT]at ha;simp only[lP,CZ,ha.1,if_true,ih ha.2]
theorem GL {s:yB} {a:Nat} {bl r:List UInt8} (f:Nat) (h:s.data.toList.drop a=bl++r) (hb:bl.all (fun c=>ke c.toNat)=true) (hr:∀c l,r=c::l->ke c.toNat=false) (hd:Lib.hasPrefix r [45,45]=false):uh (f+1) s a=a+bl:=by
 have j:jv ke s a=bl.length:=by unfold jv;rw[h,BD hb hr]
 unfold uh;rw[j,wK h,hd,iV iI]
theorem CC {s:yB}:∀(ps:List Pc) (bl:List UInt8) (a f:Nat),s.data.toList.drop a=bl++iY ps->bl.all (fun c=>ke c.toNat)=true->zE 32 ps=true->s.size-a<f->a<=s.size->sH f s a=some (toks ps)
 |[],bl,a,f,h,hb,_,hf,ha=>by
  obtain⟨f,rfl⟩:∃g,f=g+1:=⟨f-1,by omega⟩;have hsk:=GL s.size h hb (fun c l e=>by cases e) rfl;have hlen:s.size-a=bl:=by
   have:=nQ List.length h;rw[nY,jr,mo]at this;simpa[iY] using this
  unfold sH;rw[hsk,iG (by omega)];rfl
 |.tk t::ps,bl,a,f,h,hb,j,hf,ha=>by
  obtain⟨f,rfl⟩:∃g,f=g+1:=⟨f-1,by omega⟩;have j:(P7 t&&wa t (zD 32 ps)&&zE 32 ps)=true:=j;simp only[mT]at j;obtain⟨⟨o,I⟩,j⟩:=j;have h:s.data.toList.drop a=bl++(Dt t++iY ps):=h;obtain⟨h1,h2,U,R⟩:=I5 (wK h) o I;have hsk:=GL s.size h hb U R;have J:=wK (wK h);have hlen:s.size-a=bl+((Dt t).length+(iY ps).length):=by
   have:=nQ List.length h;rw[nY,jr,mo,mo]at this;exact this
  unfold sH;rw[hsk,iV iu,h1];show (sH f s (a+bl.length+(Dt t).length)).map (t::·)=_
  rw[CC ps [] (a+bl.length+(Dt t).length) f (by rw[J];rfl) rfl j iu iu];rfl
 |.sp c::ps,bl,a,f,h,hb,j,hf,ha=>by
  have j:(ke c.toNat&&zE 32 ps)=true:=j;simp only[mT]at j;exact CC ps (bl++[c]) a f (by rw[h];show bl++(c::iY ps)=_;simp) (by rw[He,hb];simpa using j.1) j.2 hf ha
theorem Gn {s:yB} {ps:List Pc} (h:s.data.toList=iY ps) (ho:zE 32 ps=true) (hs:s.size<=65536):nP s=some (toks ps):=by
 unfold nP;rw[iV iu];exact CC ps [] 0 (s.size+1) (by rw[sS,h];rfl) rfl ho iu iu
section
open Go.Proofs.Tryz
def uw (nd q E:Int):Ending:=.panicked [{ v:=.iface 105 (.agg #[nd,q,E]),recovered:=false }]
def PE (w:yM) (nd q E:Int) (e:Ending) (w':yM):Prop:=ik w w'/\((E=0/\e=.returned (.tuple #[]))\/(E≠0/\e=uw nd q E))
theorem PE.Tw {w w':yM} {nd q:Int} {e:Ending} (h:PE w nd q 0 e w'):e=.returned (.tuple #[])/\ik w w':=by
 rcases h.2 with⟨_,h2⟩ | ⟨h1,_⟩
 ·exact⟨h2,h.1⟩
 exact absurd rfl h1
theorem PE.Oq {w w':yM} {nd q E:Int} {e:Ending} (h:PE w nd q E e w') (hE:E≠0):e=uw nd q E/\ik w w':=by
 rcases h.2 with⟨h1,_⟩ | ⟨_,h2⟩
 ·exact absurd h1 hE
 exact⟨h2,h.1⟩
theorem PE.Rv {w w':yM} {nd q E:Int} {e:Ending} (h:PE w nd q E e w') (hE:E=0):e=.returned (.tuple #[])/\ik w w':=by subst hE;exact h.Tw
theorem PE.to {w w':yM} {nd q E:Int} {e:Ending} (h:PE w nd q E e w') {F:Int} (hE:E=F):PE w nd q F e w':=hE▸h
theorem PE.Ss {w w':yM} {nd q:Int} (h:ik w w'):PE w nd q 0 (.returned (.tuple #[])) w':=⟨h,.inl ⟨rfl,rfl⟩⟩
theorem PE.RD {w w':yM} {nd q E:Int} (hE:E≠0) (h:ik w w'):PE w nd q E (uw nd q E) w':=⟨h,.inr ⟨hE,rfl⟩⟩
def pK (w:yM) (g:Nat) (A:zA) (n c:Nat) (nd q:Int):Prop:=iP w g 109 #[(A,n,c),nd,q]
theorem pK.here {w0:yM} {g A n c nd q} (h:pK w0 g A n c nd q) (w:yM) [k:ik w0 w]:pK w g A n c nd q:=mZ h
theorem pK.fields {w:yM} {g A n c nd q} (h:pK w g A n c nd q):w.cell? g=(A,n,c)/\w.cell? (g,1)=nd/\w.cell? (g,2)=q/\Le (g+1) w:=
 ⟨by rw[uJ h];rfl,by rw[uJ h];rfl,by rw[uJ h];rfl,jo h⟩
theorem Hb (w:yM) (g:Nat) (e:Int):Calls prog 39 #[.pointer (some g),true,e] w fun e' w'=>e'=.returned (.tuple #[])/\w'=w:=by
 go_in;go_wp2;go_end0;exact⟨rfl,rfl⟩
theorem JW {w:yM} {g A n c nd q} (h:pK w g A n c nd q) (e:Int):Calls prog 39 #[.pointer (some g),false,e] w fun e' w'=>e'=uw nd q e/\w'=w:=by
 obtain⟨J,I,o,j⟩:=h.fields;go_in;go_wp2;exact⟨rfl,rfl,rfl⟩
theorem rC {w:yM} {g A n c nd q} (h:pK w g A n c nd q) (ok:Bool) (e:Int) (he:e≠0):Calls prog 39 #[.pointer (some g),ok,e] w fun e' w'=>PE w nd q (if ok then 0 else e) e' w':=by
 cases ok with
 |true=>
  refine (Hb w g e).mono ?_;rintro e' w' ⟨rfl,rfl⟩;exact PE.Ss iR
 |false=>
 refine (JW h e).mono ?_;rintro e' w' ⟨rfl,rfl⟩;exact PE.RD he iR
theorem Au {w:yM} {g A n c nd q} (h:pK w g A n c nd q) (e:Int):Calls prog 78 #[.pointer (some g),e] w fun e' w'=>PE w nd q e e' w':=by
 by_cases o:e=0
 ·subst o
  have I:=iB (Hb w g 0);go_in;go_wp2_with fail;refine I.mono ?_;rintro e' w' ⟨rfl,j⟩;rw[j];go_wp2;go_end0;exact PE.Ss zc
 have J:(e==0)=false:=by rw[beq_eq_false_iff_ne];exact o
 have I:=iB (JW h e);go_in;go_wp2_with fail;refine I.mono ?_;rintro e' w' ⟨rfl,j⟩;rw[j];unfold uw;go_wp2;exact⟨rfl,PE.RD o iR⟩
theorem qs:(prog.info? 73).map (fun i=>(i.zero,i.size,i.bytes))=some (some (.agg #[JX,JX,JX,JX,ByteArray.empty,()]),6,72):=by kernel_rfl
theorem toList_inj {a b:yB} (h:a.toList=b.toList):a=b:=by
 rw[nC,nC]at h;cases a;cases b;simp at h;rw[h]
inductive Ex where
 |mk (k o t v:Int) (s:yB) (xs:List Ex)
mutual
def Tx.er:Tx->Ex
 |.mk k o t v s _ _ xs=>.mk k o t v s (Tx.kv xs)
def Tx.kv:List Tx->List Ex
 |[]=>[]
 |a::xs=>Tx.er a::Tx.kv xs
end
theorem nM:∀l:List Tx,(Tx.kv l).length=l.length
 |[]=>rfl
 |a::l=>by rw[Tx.kv,py,py,nM l]
theorem EK:∀(l:List Tx) (i:Nat),(Tx.kv l)[i]?=(l[i]?).map Tx.er
 |[],i=>by simp[Tx.kv]
 |a::l,0=>by simp[Tx.kv]
 |a::l,i+1=>by simp[Tx.kv,EK l i]
mutual
def Tx.same:Tx->Tx->Bool
 |.mk k o t v s _ _ xs,.mk k' o' t' v' s' _ _ xs'=>(k==k')&&((o==o')&&((t==t')&&((v==v')&&((s.toList==s'.toList)&&(decide (xs.length=xs')&&Tx.rU xs xs')))))
def Tx.rU:List Tx->List Tx->Bool
 |[],_=>true
 |a::xs,[]=>true
 |a::xs,b::ys=>Tx.same a b&&Tx.rU xs ys
end
mutual
theorem wL:∀a b:Tx,a.same b=true↔a.er=b.er
 |.mk k o t v s A c xs,.mk k' o' t' v' s' A' c' xs'=>by
  rw[Tx.same,Tx.er,Tx.er];simp only[mT,beq_iff_eq,decide_eq_true_eq,Ex.mk.injEq];constructor
  ·rintro⟨h1,h2,h3,h4,h5,h6,h7⟩
   exact⟨h1,h2,h3,h4,toList_inj h5,(Ao xs xs' h6).1 h7⟩
  rintro⟨h1,h2,h3,h4,h5,h6⟩;have hl:xs.length=xs':=by rw[<- nM xs,h6,nM]
  exact⟨h1,h2,h3,h4,by rw[h5],hl,(Ao xs xs' hl).2 h6⟩
theorem Ao:∀a b:List Tx,a.length=b->(Tx.rU a b=true↔Tx.kv a=Tx.kv b)
 |[],[],_=>by simp[Tx.rU]
 |[],b::bs_,h=>by simp at h
 |a::as_,[],h=>by simp at h
 |a::as_,b::bs_,h=>by
  rw[Tx.rU,Tx.kv,Tx.kv,mT,wL a b,Ao as_ bs_ (by simpa using h)];simp
end
theorem iP.Tr {w:yM} {g:Nat} (hg:w=g) (t:TypeId) (cs:Array Value):iP (w.alloc (.cells cs t)) g t cs:=by subst hg;exact jC w t cs
end
section
open Go.Proofs.Tryz
variable {S:Prop}
end
abbrev zF:=@PE.Ss
abbrev CS:=@PE.RD
abbrev AO:=@iP.Tr
def Na (t:Tk):Prop:=t.kind=2->(∀c∈t.text.data.toList,jw (c.toNat:Nat)=true)/\0<t.text.size/\t.text.size<=5
structure Rd (B:yM) (q:Nat) (A:zA) (c:Nat) (L:List Tk) (en:Int) (eA:zA) (ec:Nat) (el:List iW) (w:yM) (i:Nat):Prop where
 blk:iP w q 95 #[(A,L,c),en,(i:Nat),(eA,el,ec)]
 aft:ik B (iz q w)
 le:i<=L
 tk:ir 3 Om B ⟨A,c,L⟩
 ens:ir 2 sM B ⟨eA,ec,el⟩
 few:L.length<=65536
 num:∀t∈L,Na t
def oD (a er:Int):Ending:=.panicked [{ v:=.iface 97 (.agg #[a,er]),recovered:=false }]
def Fl (e:Ending):Prop:=∃a er:Int,e=oD a er/\er≠0
section
variable {B:yM} {q:Nat} {A:zA} {c:Nat} {L:List Tk} {en:Int} {eA:zA} {ec:Nat} {el:List iW} {w w':yM} {i:Nat}
theorem Rd.after (h:Rd B q A c L en eA ec el w i) (k:ik w w'):Rd B q A c L en eA ec el w' i:=⟨h.blk.after,tD h.aft k,h.le,h.tk,h.ens,h.few,h.num⟩
theorem Rd.fields (h:Rd B q A c L en eA ec el w i):w.cell? q=(A,L,c)/\w.cell? (q,1)=en/\w.cell? (q,2)=(i:Nat)/\w.cell? (q,3)=(eA,el,ec)/\w.frozen? (q,2)=false/\Le (q+1) w:=
 ⟨(h.blk.cell 0).trans rfl,(h.blk.cell 1).trans rfl,(h.blk.cell 2).trans rfl,(h.blk.cell 3).trans rfl,h.blk.frozen 2,h.blk.is_le⟩
theorem Rd.move (h:Rd B q A c L en eA ec el w i) {j:Nat} (hj:j<=L):Rd B q A c L en eA ec el (w.setCell (q,2) (.int .i64 (j:Nat))) j:=
 ⟨h.blk.jx 2 (.int .i64 (j:Nat)),by rw[jJ];exact h.aft,hj,h.tk,h.ens,h.few,h.num⟩
theorem Rd.toks (h:Rd B q A c L en eA ec el w i):ir 3 Om w ⟨A,c,L⟩:=(h.tk.below xB h.aft.below).sub GC (yI q w)
theorem Rd.enums (h:Rd B q A c L en eA ec el w i):ir 2 sM w ⟨eA,ec,el⟩:=(h.ens.below lU h.aft.below).sub rH (yI q w)
theorem Rd.at_ (h:Rd B q A c L en eA ec el w i) {j:Nat} (hj:j<L):∃(b p:Nat) (k:Int) (t:yB) (n:Nat),A=some ⟨b,p,none⟩/\Le (b+1) w/\Hid (L[j]?=some ⟨k,t⟩)/\t.size<=65536/\n<=65536/\w.cell? (b,p+j*3)=k/\w.cell? (b,p+j*3+1)=t/\w.cell? (b,p+j*3+2)=n:=by
 obtain⟨b,p,y,e,J,o,hp⟩:=h.toks.part (i:=j) hj;obtain⟨n,I,R⟩:=hp.c2;exact⟨b,p,y.kind,y.text,n,e,J,o,hp.nm,I,hp.c0,hp.c1,R⟩
theorem Rd.bounds (h:Rd B q A c L en eA ec el w i):i<=L/\L.length<=65536/\L<=c/\c<=9223372036854775807:=⟨h.le,h.few,h.tk.le,h.tk.cap⟩
end
def wg (s:yB) (t:Tk):Bool:=(t.kind==3||t.kind==4)&&t.text.toList==s.toList
def jq (s:yB):List Tk->Bool
 |[]=>false
 |t::_=>wg s t
def ju (k:Int):List Tk->Bool
 |[]=>false
 |t::_=>t.kind==k
theorem oU {α:Type} {L:List α} {j:Nat} {x:α} (h:L[j]?=some x):L.drop j=x::L.drop (j+1):=by
 obtain⟨o,rfl⟩:=rq.1 h;exact MG o
section
variable {B:yM} {q:Nat} {A:zA} {c:Nat} {L:List Tk} {en:Int} {eA:zA} {ec:Nat} {el:List iW} {w:yM} {i:Nat}
theorem Qp (h:Rd B q A c L en eA ec el w i) (j:Int) (h0:0<=j):Calls prog 73 #[.pointer (some q),j] w fun e w'=>(∃a:Int,e=.returned (.int .i64 a))/\ik w w':=by
 obtain⟨k,rfl⟩:=Int.eq_ofNat_of_zero_le h0;obtain⟨b1,b2,b3,b4⟩:=h.bounds;obtain⟨c0,c1,c2,c3,f2,l0⟩:=h.fields;by_cases I:k<L
 ·have o:(k:Int)<(L:Int):=iu
  obtain⟨b,p,kd,t,n,rfl,hl,hy,ht,hn,U,R,J⟩:=h.at_ I;go_in;go_wp2;go_ret;exact⟨⟨_,rfl⟩,iR⟩
 have o:¬((k:Int)<(L:Int)):=iu;go_in;go_wp2;go_ret;exact⟨⟨_,rfl⟩,iR⟩
theorem nj (h:Rd B q A c L en eA ec el w i) (j:Int) (h0:0<=j) (er:Int):Calls prog 37 #[.pointer (some q),j,er] w fun e w'=>(∃a:Int,e=oD a er)/\ik w w':=by
 have I:=iy (Qp h j h0);go_in;go_wp2_with fail;refine I.mono ?_;rintro e J ⟨⟨a,rfl⟩,o⟩;go_wp2;exact⟨rfl,⟨a,rfl⟩,o⟩
theorem No (h:Rd B q A c L en eA ec el w i) (j:Nat) (s:yB):Calls prog 68 #[.pointer (some q),(j:Nat),s] w fun e w'=>e=.returned (.bool (jq s (L.drop j)))/\ik w w':=by
 obtain⟨b1,b2,b3,b4⟩:=h.bounds;obtain⟨c0,c1,c2,c3,f2,l0⟩:=h.fields;by_cases hj:j<L
 ·have a1:(j:Int)<(L:Int):=iu
  have U:¬((L:Int)<=(j:Int)):=iu;obtain⟨b,p,I,t,n,rfl,hl,hy,ht,hn,t0,t1,t2⟩:=h.at_ hj;have o:Hid (jq s (L.drop j)=((I==3||I==4)&&t.toList==s.toList)):=by show _=_;rw[oU hy.out];rfl
  generalize jq s (L.drop j)=X at o;obtain⟨z3,R⟩:=jt ((I==3));obtain⟨z4,J⟩:=jt ((I==4));rw[R,J]at o;cases z3<;>cases z4 <;>
  ·go_in
   go_wp2;go_ret;exact⟨iK (by rw[o.out];simp),iR⟩
 ·have a1:¬((j:Int)<(L:Int)):=iu
  have U:((L:Int)<=(j:Int)):=iu;have o:Hid (jq s (L.drop j)=false):=by show _=_;rw[Bn (wb hj)];rfl
  go_in;go_wp2;go_ret;exact⟨iK o.symm,iR⟩
end
def pk {α:Type} (B:yM) (q:Nat) (A:zA) (c:Nat) (L:List Tk) (en:Int) (eA:zA) (ec:Nat) (el:List iW) (w:yM) (i0:Nat) (r:Option (α×List Tk)) (val:α->yM->Value->Prop) (e:Ending) (w':yM):Prop:=ik (iz q w) (iz q w')/\match r with
 |some (x,rest)=>∃(v:Value) (i':Nat),e=.returned v/\val x w' v/\Rd B q A c L en eA ec el w' i'/\L.drop i'=rest/\i0<=i'
 |none=>Fl e
section
variable {α:Type} {B:yM} {q:Nat} {A:zA} {c:Nat} {L:List Tk} {en:Int} {eA:zA} {ec:Nat} {el:List iW} {w w1 w':yM} {val:α->yM->Value->Prop}
theorem pk.none {i0:Nat} {r:Option (α×List Tk)} {e:Ending} (h:r=none) (a:ik (iz q w) (iz q w')) (hf:Fl e):pk B q A c L en eA ec el w i0 r val e w':=by subst h;exact⟨a,hf⟩
theorem pk.some {i0:Nat} {r:Option (α×List Tk)} {x:α} {rest:List Tk} {v:Value} {i:Nat} (h:r=some (x,rest)) (a:ik (iz q w) (iz q w')) (hv:val x w' v) (hR:Rd B q A c L en eA ec el w' i) (hd:L.drop i=rest) (hi:i0<=i):pk B q A c L en eA ec el w i0 r val (.returned v) w':=by subst h;exact⟨a,v,i,rfl,hv,hR,hd,hi⟩
theorem Rd.idx {i:Nat} {rest:List Tk} (h:Rd B q A c L en eA ec el w i) (hd:L.drop i=rest):i+rest=L:=by
 rw[<- hd,nY];have:=h.le;omega
theorem jz (a er:Int) (h:er≠0):Fl (oD a er):=⟨a,er,rfl,h⟩
end
section
variable {B:yM} {q:Nat} {A:zA} {c:Nat} {L:List Tk} {en:Int} {eA:zA} {ec:Nat} {el:List iW} {w:yM} {i:Nat}
theorem nK (h:Rd B q A c L en eA ec el w i) (s:yB):Calls prog 30 #[.pointer (some q),s] w fun e w'=>e=.returned (.bool (jq s (L.drop i)))/\ik w w':=by
 obtain⟨c0,c1,c2,U,R,J⟩:=h.fields;have j:=iy (No h i s);generalize jq s (L.drop i)=z at j;go_in;go_wp2_with fail;refine j.mono ?_;rintro e I ⟨rfl,o⟩;go_wp2;go_ret;exact⟨rfl,o⟩
theorem qv (h:Rd B q A c L en eA ec el w i) (k:Int):Calls prog 34 #[.pointer (some q),k] w fun e w'=>e=.returned (.bool (ju k (L.drop i)))/\ik w w':=by
 obtain⟨b1,b2,b3,b4⟩:=h.bounds;obtain⟨c0,c1,c2,c3,f2,l0⟩:=h.fields;by_cases I:i<L
 ·have o:(i:Int)<(L:Int):=iu
  obtain⟨b,p,R,t,n,rfl,hl,U,ht,hn,t0,t1,t2⟩:=h.at_ I;have j:Hid (ju k (L.drop i)=(R==k)):=by show _=_;rw[oU U.out];rfl
  generalize ju k (L.drop i)=X at j;go_in;go_wp2_with fail;refine iE kp kp ?_;repeat (go_big_quiet_step (fail))
  refine wpQuiet_nil ?_;rintro _ ⟨J,rfl⟩;go_wp2;go_ret;exact⟨iK j.symm,iR⟩
 have o:¬((i:Int)<(L:Int)):=iu;have j:Hid (ju k (L.drop i)=false):=by show _=_;rw[Bn (wb I)];rfl
 generalize ju k (L.drop i)=X at j;go_in;go_wp2_with fail;refine iE kp kp ?_;repeat (go_big_quiet_step (fail))
 refine wpQuiet_nil ?_;rintro _ ⟨J,rfl⟩;go_wp2;go_ret;exact⟨iK j.symm,iR⟩
theorem pI {s:yB} (h:jq s (L.drop i)=true):i<L:=by
 rcases qa i L with j | j
 ·exact j
 rw[Bn j]at h;cases h
theorem rX {k:Int} (h:ju k (L.drop i)=true):i<L:=by
 rcases qa i L with j | j
 ·exact j
 rw[Bn j]at h;cases h
theorem tB (h:Rd B q A c L en eA ec el w i) (s:yB):Calls prog 35 #[.pointer (some q),s] w fun e w'=>∃z,jq s (L.drop i)=z/\e=.returned (.bool z)/\Rd B q A c L en eA ec el w' (if z then i+1 else i)/\ik (iz q w) (iz q w'):=by
 obtain⟨b1,b2,b3,b4⟩:=h.bounds;have I:=iy (nK h s);have HM:jq s (L.drop i)=true->i<L:=pI;obtain⟨z,J⟩:=jt (jq s (L.drop i));rw[J]at I HM;have U:=iy J;have H:=iy h;cases z
 ·go_in
  go_wp2_with fail;refine I.mono ?_;rintro e w1 ⟨rfl,o⟩;go_wp2;go_ret;exact⟨false,U,rfl,H.after o,im o⟩
 have hi:=HM rfl;go_in;go_wp2_with fail;refine I.mono ?_;rintro e w1 ⟨rfl,o⟩;have R:=H.after o;obtain⟨c0,c1,c2,c3,f2,l0⟩:=R.fields;have R2:=iy (R.move (j:=i+1) hi);go_wp2;go_ret;exact⟨true,U,rfl,R2,by rw[jJ];exact im o⟩
def pV:List Tk->Option (yB×List Tk)
 |[]=>none
 |t::l=>if t.kind==1 then some (t.text,l) else none
theorem qb (h:Rd B q A c L en eA ec el w i):Calls prog 32 #[.pointer (some q)] w (pk B q A c L en eA ec el w i (pV (L.drop i)) fun s w' v=>v=.string s/\s.size<=65536):=by
 obtain⟨b1,b2,b3,b4⟩:=h.bounds;have HK:=iy (qv h 1);have HM:ju 1 (L.drop i)=true->i<L:=rX;obtain⟨z,hz⟩:=jt (ju 1 (L.drop i));rw[hz]at HK HM;have HZ:=iy hz;have H:=iy h;cases z
 ·have HX:Hid (pV (L.drop i)=none):=by
   show _=_
   have I:=HZ.out;cases hd:L.drop i with
   |nil=>rfl
   |cons t l=>
   rw[hd]at I;show (if t.kind==1 then _ else _)=_
   rw[show (t.kind==1)=false from I];rfl
  go_in;go_wp2_with fail;refine HK.mono ?_;rintro e w1 ⟨rfl,J⟩;have R:=H.after J;obtain⟨c0,c1,c2,c3,f2,l0⟩:=R.fields;have HF:=iy (nj R i iu 5);go_wp2_with fail;refine HF.mono ?_;rintro e w2 ⟨⟨a,rfl⟩,a2⟩;unfold oD;go_wp2;exact⟨rfl,pk.none HX (im (ij J a2)) (jz a 5 iI)⟩
 have hi:=HM rfl;have a8:(i:Int)<(L:Int):=iu;have a7:(0:Int)<=(i:Int):=iu;obtain⟨t,ht⟩:∃t,L[i]?=some t:=⟨_,qn hi⟩;have HX:Hid (pV (L.drop i)=some (t.text,L.drop (i+1))):=by
  show _=_
  have I:=HZ.out;rw[oU ht]at I⊢;show (if t.kind==1 then _ else _)=_
  rw[show (t.kind==1)=true from I];rfl
 have HT:=iy ht;go_in;go_wp2_with fail;refine HK.mono ?_;rintro e w1 ⟨rfl,J⟩;have R:=H.after J;obtain⟨c0,c1,c2,c3,f2,l0⟩:=R.fields;obtain⟨w2,U,R2,a2⟩:∃v,w1.setCell (q,2) (.int .i64 ((i:Int)+1))=v/\Hid (Rd B q A c L en eA ec el v (i+1))/\ik (iz q w) (iz q v):=⟨_,rfl,R.move (j:=i+1) hi,by rw[jJ];exact im J⟩;obtain⟨d0,d1,d2,d3,g2,m0⟩:=R2.fields;obtain⟨b,p,kd,t',n,rfl,hl,hy,a6,hn,t0,t1,t2⟩:=R2.at_ hi;go_wp2_with fail;try rw[U]
 refine iE kp kp ?_;repeat (go_big_quiet_step (fail))
 refine wpQuiet_nil ?_;rintro _ ⟨y_,rfl⟩;go_wp2;go_ret;have o:=sI (HT.symm.trans hy);exact pk.some HX (ij a2 (im iR)) ⟨by rw[o];rfl,by rw[o];exact a6⟩ (R2.after iR) rfl (uR _)
def To (w:yM) (n m:Int) (e:Ending) (w':yM):Prop:=ik w w'/\((n<m/\e=.returned (.tuple #[]))\/(m<=n/\Fl e))
theorem mF (h:Rd B q A c L en eA ec el w i) (n m:Int):Calls prog 31 #[.pointer q,n,m] w (To w n m):=by
 obtain⟨c0,c1,c2,c3,f2,U⟩:=h.fields;have J:=iy (nj h i iu 3);by_cases o:m<=n
 ·go_in
  go_wp2_with fail;refine J.mono ?_;rintro e R ⟨⟨a,rfl⟩,I⟩;have j:=jz a 3 iI;unfold oD at j⊢;go_wp2;exact⟨rfl,I,.inr ⟨o,j⟩⟩
 go_in;go_wp2;go_end0;exact⟨iR,.inl ⟨iu,rfl⟩⟩
end
theorem F4.sub {W w:yM} {A c l} (h:F4 W A c l) (k:CU W w):F4 w A c l:=
 ⟨fun j s hj=>(by obtain⟨b,o,e,hlt,hc⟩:=h.cells j s hj;exact⟨b,o,e,rO hlt k.size,k.cell _ _ _ hc⟩),h.le,h.cap,h.len⟩
def iF:List yB->List Tk->Option (Unit×List Tk)
 |[],ts=>some ((),ts)
 |s::l,ts=>if jq s ts then iF l ts.tail else none
section
variable {B:yM} {q:Nat} {A:zA} {c:Nat} {L:List Tk} {en:Int} {eA:zA} {ec:Nat} {el:List iW} {w:yM} {i:Nat}
theorem tail_drop {α:Type} (L:List α) (i:Nat):(L.drop i).tail=L.drop (i+1):=by rw[List.tail_drop]
theorem L3 {mA:zA} {mc:Nat} {l:List yB} (h:Rd B q A c L en eA ec el w i) (hl:F4 (iz q w) mA mc l):Calls prog 33 #[.pointer q,(mA,l,mc)] w (pk B q A c L en eA ec el w i (iF l (L.drop i)) fun _ _ v=>v=.tuple #[]):=by
 obtain⟨X,hX⟩:=jt (iF l (L.drop i));rw[hX];have U:=iy hX;have a8:=hl.len;have a_:=hl.cap;have a':=hl.le;have HL:=iy hl;have H:=iy h;go_in;go_wp2_with fail;go_loopw [8] (fun j wr=>∃k i':Nat,k<=l.length/\Hid (i<=i')/\j=.int .i64 (k:Nat)/\Hid (iF (l.drop k) (L.drop i')=X)/\Hid (Rd B q A c L en eA ec el wr i')/\ik (iz q w) (iz q wr)) (fun j _=>l.length-(intOf j).toNat)
 ·exact⟨0,i,iu,js i,rfl,U,H,iq _⟩
 case round=>
 obtain⟨k,i,hk,J,rfl,U,H,aw⟩:=hrel;by_cases a6:k<l
 ·have I:(k:Int)<(l:Int):=iu
  obtain⟨b,o,s,rfl,lb,hc,hy⟩:=((HL.here (iz q wr)).sub (yI q wr)).at_ a6;have HT:=iy (tB H s);have HE:Hid (iF (l.drop k) (L.drop i)=if jq s (L.drop i) then iF (l.drop (k+1)) (L.drop (i+1)) else none):=by
   show _=_
   rw[oU hy.out,<- tail_drop L i];rfl
  go_wp2_with fail;refine HT.mono ?_;rintro e w1 ⟨z,hz,rfl,R,a1⟩;have HZ:=iy hz;cases z
  ·obtain⟨c0,c1,c2,c3,f2,l0⟩:=R.fields
   have HF:=iy (nj R i iu 5);go_wp2_with fail;refine HF.mono ?_;rintro e w2 ⟨⟨a,rfl⟩,a2⟩;unfold oD;go_wp2;exact⟨rfl,pk.none (by rw[<- U.out,HE.out,HZ.out];rfl) (ij aw (ij a1 (im a2))) (jz a 5 iI)⟩
  have R:=iy R;go_wp2;go_roundw
  case rel=>exact⟨k+1,i+1,by omega,wc J,by go_num,by (show _=_;rw[<- U.out,HE.out,HZ.out];rfl),R,ij aw a1⟩
  case measure=>simp[intOf];omega
 have I:¬((k:Int)<(l:Int)):=iu;have a7:Hid (X=some ((),L.drop i)):=by show _=_;rw[<- U.out,Bn iu];rfl
 go_wp2;go_end0;exact pk.some a7 aw rfl H rfl J
def AB (s:yB):List iW->Nat->Option (Int×Int)
 |[],_=>none
 |u::l,j=>if 0<=Lib.idxOfS u.tags.l s then some (3+((j:Nat):Int),Lib.idxOfS u.tags.l s) else AB s l (j+1)
def qh (el:List iW) (s:yB):Option (Int×Int):=AB s el 0
def Sm (w:yM) (r:Option (Int×Int)) (e:Ending) (w':yM):Prop:=ik w w'/\match r with
 |some (t,v)=>e=.returned (.tuple #[t,v,true])
 |none=>e=.returned (.tuple #[JX,JX,false])
theorem DX (zs:List yB) (x:yB):-1<=Lib.idxOfS zs x/\Lib.idxOfS zs x<(zs:Int):=by
 have:∀(zs:List yB) (i:Nat),-1<=Lib.idxFromS zs x i/\Lib.idxFromS zs x i<(zs:Int)+i:=by
  intro zs;induction zs with
  |nil=>intro i;simp[Lib.idxFromS];omega
  |cons z zs ih=>
  intro i;have:=ih (i+1);unfold Lib.idxFromS;split
  ·simp;omega
  simp at this⊢;omega
 have:=this zs 0;unfold Lib.idxOfS;simpa using this
theorem LD {w0:yM} {x:nB yB} (h:ir 1 sR w0 x) (s:yB) (U:yM) (hU:ik w0 U):Calls prog 167 #[(x.A,x.l,x.c),s] U fun e w'=>e=.returned (.int .i64 (Lib.idxOfS x.l s))/\w'=U:=by
 obtain⟨xA,J,I⟩:=x;have h:=h.strs U;rcases h.cells with e | ⟨b,p,e,hlt,hc⟩
 ·simp only[]at e⊢
  subst e;exact slices_Index_string_empty xA J s U
 simp only[]at e⊢;subst e;have o:=h.len;have:=slices_Index_string b p I J I s U (js _) (by have:I.length<=_:=o;omega) (fun j R=>by
  have h1:=(hc j I[j] (by simp[R])).1;rw[yr]at h1;rw[h1,wC,qn R];rfl)
 rwa [pf]at this
theorem ED (h:Rd B q A c L en eA ec el w i) (s:yB):Calls prog 176 #[.pointer q,s] w (Sm w (qh el s)):=by
 obtain⟨c0,c1,c2,c3,f2,l0⟩:=h.fields;have HE:=iy h.enums;have a1:=h.enums.len;have a6:=h.enums.cap;have a8:=h.enums.le;obtain⟨X,hX⟩:=jt (qh el s);rw[hX];have HX:=iy hX;simp only[]at a1 a6 a8;go_in;go_wp2_with fail;go_loopw [15] (fun j wr=>∃k:Nat,k<=el.length/\j=.int .i64 (k:Nat)/\Hid (AB s (el.drop k) k=X)/\ik w wr) (fun j _=>el.length-(intOf j).toNat)
 ·exact⟨0,iu,rfl,HX,iq _⟩
 case round=>
 obtain⟨k,hk,rfl,HX,aw⟩:=hrel;by_cases a7:k<el
 ·have R:(k:Int)<(el:Int):=iu
  obtain⟨b,p,u,rfl,lb,hy,hp⟩:=(HE.enums wr).part a7;have HI:=iy (fun U hU=>LD hp.tg s U hU);have k0:=hp.c0;have k1:=hp.c1;have a':=hp.tg.len;have aa:=hp.tg.cap;have HS:Hid (AB s (el.drop k) k=if 0<=Lib.idxOfS u.tags.l s then some (3+((k:Nat):Int),Lib.idxOfS u.tags.l s) else AB s (el.drop (k+1)) (k+1)):=by show _=_;rw[oU hy.out];rfl
  have a_:=DX u.tags.l s;generalize Lib.idxOfS u.tags.l s=m at HI HS a_;by_cases hm:0<=m
  ·have J:Hid (X=some (3+((k:Nat):Int),m)):=by show _=_;rw[<- HX.out,HS.out,iG hm]
   go_wp2_with fail;refine (HI _ zc).mono ?_;rintro e w1 ⟨rfl,I⟩;obtain⟨w2,o,a2⟩:∃v,w1=v/\ik w v:=⟨_,rfl,by rw[I];exact ij aw iR⟩;rw[o];go_wp2;exact jR (v:=.tuple #[.int .i64 (3+(k:Nat)),m,.bool true]) (by simp[results,results176,go_sem]) rfl ⟨a2,by rw[J.out]⟩
  go_wp2_with fail;refine (HI _ zc).mono ?_;rintro e w1 ⟨rfl,I⟩;obtain⟨w2,o,a2⟩:∃v,w1=v/\ik w v:=⟨_,rfl,by rw[I];exact ij aw iR⟩;rw[o];go_wp2;go_roundw
  case rel=>exact⟨k+1,iu,by go_num,by (show _=_;rw[<- HX.out,HS.out,iV iu]),a2⟩
  case measure=>simp[intOf];omega
 have R:¬((k:Int)<(el:Int)):=iu;have J:Hid (X=none):=by show _=_;rw[<- HX.out,Bn iu];rfl
 go_wp2;exact jR (v:=.tuple #[JX,JX,false]) (by simp[results,results176,go_sem]) rfl ⟨aw,by rw[J.out]⟩
theorem jH (h:Rd B q A c L en eA ec el w i) (l:List yB) (hl:l.length<=2000000):Calls prog 33 #[.pointer q,.slice w l l] (w.alloc (.cells (l.map Value.string).toArray 9)) (pk B q A c L en eA ec el w i (iF l (L.drop i)) fun _ _ v=>v=.tuple #[]):=by
 have j:=jC w 9 (l.map Value.string).toArray;have o:=h.blk.lt;refine (L3 (h.after (w':=w.alloc (.cells (l.map Value.string).toArray 9)) zc) (F4.Oh (j.mask (by omega)) hl)).mono ?_;intro e w' hE;exact⟨ij (im iR) hE.1,hE.2⟩
def l_ (el:List iW) (ts:List Tk):Option ((Int×Int)×List Tk):=
 if jq ⟨#[116,114,117,101]⟩ ts then some ((1,1),ts.tail) else if jq ⟨#[102,97,108,115,101]⟩ ts then some ((1,0),ts.tail) else match pV ts with
 |none=>none
 |some (s,r)=>match qh el s with
  |none=>none
  |some tv=>some (tv,r)
theorem mm {ts r:List Tk} {s:yB} (h:pV ts=some (s,r)):ts.length=r+1:=by
 cases ts with
 |nil=>cases h
 |cons t l=>
 have e:pV (t::l)=if t.kind==1 then some (t.text,l) else none:=rfl
 rw[e]at h;by_cases j:(t.kind==1)=true
 ·rw[iG j]at h
  injection h with h
  injection h with h1 h2
  rw[<- h2];rfl
 rw[iV j]at h;cases h
theorem wy (h:Rd B q A c L en eA ec el w i):Calls prog 168 #[.pointer q] w (pk B q A c L en eA ec el w i (l_ el (L.drop i)) fun tv _ v=>v=.tuple #[tv.1,tv.2]):=by
 obtain⟨X,hX⟩:=jt (l_ el (L.drop i));rw[hX];have HX:=iy hX;have H1:=iy (tB h ⟨#[116,114,117,101]⟩);have H:=iy h;go_in;go_wp2_with fail;refine H1.mono ?_;rintro e w1 ⟨z,hz,rfl,R1,a1⟩;have HZ:=iy hz;cases z
 ·have H2:=iy (tB R1 ⟨#[102,97,108,115,101]⟩)
  go_wp2_with fail;refine H2.mono ?_;rintro e w2 ⟨z2,a7,rfl,R2,a2⟩;have a6:=iy a7;have a2:=ij a1 a2;cases z2
  ·have H3:=iy (qb R2)
   have I:Hid (X=match pV (L.drop i) with | none=>none | some (s,r)=>match qh el s with | none=>none | some tv=>some (tv,r)):=by
    show _=_
    have h1:jq ⟨#[116,114,117,101]⟩ (L.drop i)=false:=HZ;have h2:jq ⟨#[102,97,108,115,101]⟩ (L.drop i)=false:=a6;rw[<- HX.out];unfold l_;rw[h1,h2];rfl
   have j:∀s r,pV (L.drop i)=some (s,r)->(L.drop i).length=r.length+1:=fun s r h=>mm h
   have a':(L.drop i).length<=L.length:=by rw[nY];omega
   simp only[Bool.false_eq_true,if_false]at H3;revert H3 I j;generalize pV (L.drop i)=Y;intro I j H3;go_wp2_with fail;refine H3.mono ?_;rintro e w3 ⟨a3,hY⟩;have a3:=ij a2 a3;cases Y with
   |none=>
    obtain⟨a,er,rfl,he⟩:=hY;unfold oD;go_wp2;exact⟨rfl,pk.none I a3 (jz a er he)⟩
   |some y=>
   obtain⟨s,r⟩:=y;obtain⟨v,i3,rfl,⟨rfl,hs⟩,R3,hr,R⟩:=hY;have R:=iy R;have a_:=R3.idx hr;have hl:=j s r rfl;have H4:=iy (ED R3 s);have R3:=iy R3;go_wp2_with fail;refine H4.mono ?_;rintro e w4 ⟨a4,J⟩;have o:Hid (X=match qh el s with | none=>none | some tv=>some (tv,r)):=I;revert o J;generalize qh el s=Z;intro J o;cases Z with
   |none=>
    have J:e=_:=J;subst J;have R4:=R3.after a4;obtain⟨c0,c1,c2,c3,f2,l0⟩:=R4.fields;have a8:(0:Int)<=(i3:Int)-1:=by omega
    have HF:=iy (nj R4 ((i3:Int)-1) a8 6);obtain⟨b1,b2,b3,b4⟩:=R4.bounds;go_wp2_with fail;refine HF.mono ?_;rintro e w5 ⟨⟨a,rfl⟩,a5⟩;unfold oD;go_wp2;exact⟨rfl,pk.none o (ij a3 (im (ij a4 a5))) (jz a 6 iI)⟩
   |some tv=>
   have J:e=_:=J;subst J;go_wp2;exact jR (v:=.tuple #[tv.1,tv.2]) (by simp[results,results168,go_sem]) rfl (pk.some o (ij a3 (im a4)) rfl (R3.after a4) hr R)
  go_wp2_with fail;have U:X=some ((1,0),L.drop (i+1)):=by
   have h1:jq ⟨#[116,114,117,101]⟩ (L.drop i)=false:=HZ;have h2:jq ⟨#[102,97,108,115,101]⟩ (L.drop i)=true:=a6;rw[<- HX.out];unfold l_;rw[h1,h2,tail_drop];rfl
  exact jR (v:=.tuple #[.int .i64 1,JX]) (by simp[results,results168,go_sem]) rfl (pk.some U a2 rfl R2 rfl (uR _))
 go_wp2_with fail;have U:X=some ((1,1),L.drop (i+1)):=by
  have h1:jq ⟨#[116,114,117,101]⟩ (L.drop i)=true:=HZ;rw[<- HX.out];unfold l_;rw[h1,tail_drop];rfl
 exact jR (v:=.tuple #[.int .i64 1,.int .i64 1]) (by simp[results,results168,go_sem]) rfl (pk.some U a1 rfl R1 rfl (uR _))
end
section
variable {B:yM} {q:Nat} {A:zA} {c:Nat} {L:List Tk} {en:Int} {eA:zA} {ec:Nat} {el:List iW} {w w0 w1:yM} {i:Nat}
theorem uD.Qn {r:Nat} (hr:w0<=r):uD (iz q w0) r:=⟨by rw[iZ];exact hr⟩
theorem La {r:Nat} {T:TypeId} {z0 z1 z2:Value} (hB:iP w1 r T #[z0,z1,z2]) (R:Rd B q A c L en eA ec el w1 i) (hrq:r≠q) (aw:ik (iz q w0) (iz q w1)) (hr:w0.heap.size<=r) (hB0:B.heap.size<=r) (u0 u1 u2:Value) :
  ∃W,((w1.setCell r u0).setCell ⟨r,1,none⟩ u1).setCell ⟨r,2,none⟩ u2=W/\W.cell? r=some u0/\W.cell? ⟨r,1,none⟩=some u1/\W.cell? ⟨r,2,none⟩=some u2/\Rd B q A c L en eA ec el W i/\ik (iz q w0) (iz q W):=by
 have j:=((hB.jx 0 u0).jx 1 u1).jx 2 u2;have I:uD (iz q w0) r:=uD.Qn hr;have o:uD B r:=⟨hB0⟩;refine⟨_,rfl,(j.cell 0).trans rfl,(j.cell 1).trans rfl,(j.cell 2).trans rfl,⟨((R.blk.qU (p:=⟨r,0,none⟩) (ls hrq) _).qU (p:=⟨r,1,none⟩) (ls hrq) _).qU (p:=⟨r,2,none⟩) (ls hrq) _,?_,R.le,R.tk,R.ens,R.few,R.num⟩,iJ (h:=iJ (h:=iJ (h:=aw) 0 _) 1 _) 2 _⟩;exact iJ (h:=iJ (h:=iJ (h:=R.aft) 0 _) 1 _) 2 _
theorem Rd.base (h:Rd B q A c L en eA ec el w i):B.heap.size<=w:=Po h.aft
def mD (el:List iW) (ts:List Tk):Option (sO×List Tk):=(l_ el ts).bind fun (tv,r)=>(iF [⟨#[40]⟩] r).bind fun (_,r)=>(pV r).bind fun (s,r)=>(iF [⟨#[41]⟩] r).bind fun (_,r)=>some (⟨s,tv.1,tv.2⟩,r)
theorem qW (h:Rd B q A c L en eA ec el w i):Calls prog 151 #[.pointer q] w (pk B q A c L en eA ec el w i (mD el (L.drop i)) fun x _ v=>v=.agg #[x.name,x.t,x.tag]/\x.name.size<=65536):=by
 obtain⟨X,hX⟩:=jt (mD el (L.drop i));rw[hX];obtain⟨i0,ai⟩:=jt (i);rw[ai]at hX h⊢;have I:=iy hX.symm;have aa:Hid (i0<=i0):=js _;have hq:=h.blk.lt;have aj:=h.base;obtain⟨r,J⟩:=jt (w.heap.size);have a6:r≠q:=by omega
 obtain⟨w0,ab,aw0,B0,R0⟩:∃v,w.alloc (.cells #[.string ⟨#[]⟩,JX,JX] 178)=v/\ik w v/\iP (iz q v) r 178 #[.string ⟨#[]⟩,JX,JX]/\Hid (Rd B q A c L en eA ec el v i0):=⟨_,rfl,iR,by rw[<- J];exact BR (jC ..) iu,h.after iR⟩;have HB:=iy B0;have a0:ik (iz q w0) (iz q w0):=iq _;go_in;go_wp2_with fail;try rw[J]
 try rw[ab]
 have U:=iy (wy R0);have I:Hid (X=Option.bind (l_ el (L.drop i0)) _):=I;generalize aq:l_ el (L.drop i0)=Y at U I;go_wp2_with fail;refine U.mono ?_;rintro e w1 ⟨j,R⟩;have j:=ij a0 j;cases Y with
 |none=>
  obtain⟨a,er,rfl,he⟩:=R;unfold oD;go_wp2;exact⟨rfl,pk.none I (ij (im aw0) j) (jz a er he)⟩
 |some y=>
 obtain⟨x1,r1⟩:=y;obtain⟨v1,i1,rfl,ag,RZ,J,hi⟩:=R;subst J;have R1:=iy RZ;have a1:=j;have a':=iy (jW aa hi);subst ag;have U:=iy (jH R1 [⟨#[40]⟩] iI);have I:Hid (X=Option.bind (iF [⟨#[40]⟩] (L.drop i1)) _):=I;generalize ao:iF [⟨#[40]⟩] (L.drop i1)=Y at U I;go_wp2_with fail;refine U.mono ?_;rintro e w2 ⟨j,R⟩;have j:=ij a1 j;cases Y with
 |none=>
  obtain⟨a,er,rfl,he⟩:=R;unfold oD;go_wp2;exact⟨rfl,pk.none I (ij (im aw0) j) (jz a er he)⟩
 |some y=>
 obtain⟨x2,r2⟩:=y;obtain⟨v2,i2,rfl,af,RZ,J,hi⟩:=R;subst J;have R2:=iy RZ;have a2:=j;have a_:=iy (jW a' hi);subst af;have U:=iy (qb R2);have I:Hid (X=Option.bind (pV (L.drop i2)) _):=I;generalize an:pV (L.drop i2)=Y at U I;go_wp2_with fail;refine U.mono ?_;rintro e w3 ⟨j,R⟩;have j:=ij a2 j;cases Y with
 |none=>
  obtain⟨a,er,rfl,he⟩:=R;unfold oD;go_wp2;exact⟨rfl,pk.none I (ij (im aw0) j) (jz a er he)⟩
 |some y=>
 obtain⟨x3,r3⟩:=y;obtain⟨v3,i3,rfl,ae,RZ,J,hi⟩:=R;subst J;have R3:=iy RZ;have a3:=j;have a8:=iy (jW a_ hi);obtain⟨rfl,ah⟩:=ae;have U:=iy (jH R3 [⟨#[41]⟩] iI);have I:Hid (X=Option.bind (iF [⟨#[41]⟩] (L.drop i3)) _):=I;generalize al:iF [⟨#[41]⟩] (L.drop i3)=Y at U I;go_wp2_with fail;refine U.mono ?_;rintro e w4 ⟨j,R⟩;have j:=ij a3 j;cases Y with
 |none=>
  obtain⟨a,er,rfl,he⟩:=R;unfold oD;go_wp2;exact⟨rfl,pk.none I (ij (im aw0) j) (jz a er he)⟩
 |some y=>
 obtain⟨x4,r4⟩:=y;obtain⟨v4,i4,rfl,ad,RZ,J,hi⟩:=R;subst J;have R4:=iy RZ;have a4:=j;have a7:=iy (jW a8 hi);subst ad;have o:=(HB.after (k:=a4)).Og a6;have l1:=o.is_le;have f0:=(o.cell 0).trans rfl;have f1:=(o.cell 1).trans rfl;have f2:=(o.cell 2).trans rfl;have g0:=o.frozen 0;have g1:=o.frozen 1;have g2:=o.frozen 2;go_wp2_with fail;obtain⟨W,hW,y0,y1,y2,ak,aW⟩:=La o R4 a6 (ij (im aw0) a4) (lI J) (by omega) (.string x3) (.int .i64 x1.1) (.int .i64 x1.2);rw[hW];exact jR (v:=.agg #[x3,x1.1,x1.2]) (by simp[results,results151,go_sem,y0,y1,y2]) rfl (pk.some (x:=⟨x3,x1.1,x1.2⟩) (show X=some (⟨x3,x1.1,x1.2⟩,L.drop i4) from I) aW ⟨rfl,ah⟩ ak rfl a7)
def rI (ts:List Tk):Bool:=jq ⟨#[45]⟩ ts&&ju 2 ts.tail
theorem ze (h:Rd B q A c L en eA ec el w i):Calls prog 169 #[.pointer (some q)] w fun e w'=>e=.returned (.bool (rI (L.drop i)))/\ik w w':=by
 obtain⟨b1,b2,b3,b4⟩:=h.bounds;obtain⟨c0,c1,c2,c3,f2,l0⟩:=h.fields;have hX:rI (L.drop i)=(jq ⟨#[45]⟩ (L.drop i)&&ju 2 (L.drop (i+1))):=by unfold rI;rw[tail_drop]
 rw[hX];have R:Hid (∀U,ik w U->Calls prog 30 #[.pointer (some q),.string ⟨#[45]⟩] U fun e w'=>e=.returned (.bool (jq ⟨#[45]⟩ (L.drop i)))/\ik U w'):=fun U hU=>nK (h.after hU) _
 have j:jq ⟨#[45]⟩ (L.drop i)=true->i<L:=pI;generalize jq ⟨#[45]⟩ (L.drop i)=z at R j;have HK:∀z2,ju 2 (L.drop (i+1))=z2->Hid (ju 2 (L.drop (i+1))=z2):=fun _ h=>h
 cases z
 ·clear h j HK
  go_in;go_wp2_with fail;refine iE kp kp ?_;repeat (go_big_quiet_step ((go_at_call 30;exact mR ((R _ iR).mono fun e w' h=>⟨h.1,jP _ _ (h:=h.2)⟩))))
  refine wpQuiet_nil ?_;rintro _ ⟨y_,rfl⟩;go_wp2;go_ret;exact⟨rfl,iR⟩
 have hi:=j rfl;have a6:(i:Int)<(L:Int):=by omega
 by_cases hj:i+1<L
 ·have I:(i:Int)+1<(L:Int):=iu
  obtain⟨b,p,kd,t,n,rfl,hl,hy,ht,hn,t0,t1,t2⟩:=h.at_ hj;have J:=HK (kd==2) (by rw[oU hy.out];rfl);generalize ju 2 (L.drop (i+1))=X at J;have o:=iy J;go_in;go_wp2_with fail;refine iE kp kp ?_;repeat (go_big_quiet_step ((go_at_call 30;exact mR ((R _ iR).mono fun e w' h=>⟨h.1,jP _ _ (h:=h.2)⟩))))
  refine wpQuiet_nil ?_;rintro _ ⟨y_,rfl⟩;go_wp2;go_ret;exact⟨iK (by rw[o.out];rfl),iR⟩
 have I:¬((i:Int)+1<(L:Int)):=iu;have a1:=decide_eq_false I;have J:=HK false (by rw[Bn iu];rfl);generalize ju 2 (L.drop (i+1))=X at J;have o:=iy J;go_in;go_wp2_with fail;refine iE kp kp ?_;repeat (go_big_quiet_step ((go_at_call 30;exact mR ((R _ iR).mono fun e w' h=>⟨h.1,jP _ _ (h:=h.2)⟩))))
 refine wpQuiet_nil ?_;rintro _ ⟨y_,rfl⟩;go_wp2;go_ret;exact⟨iK (by rw[o.out];rfl),iR⟩
end
def ud (n:Int) (l:List UInt8):Int:=l.foldl (fun n c=>10*n+((c.toNat:Nat)-48:Int)) n
def rY (s:yB):Int:=ud 0 s.data.toList
theorem FG:∀(l:List UInt8) (n:Int) (k:Nat),(∀c∈l,jw (c.toNat:Nat)=true)->0<=n->n<10 ^ k->0<=ud n l/\ud n l<10 ^ (k+l)
 |[],n,k,_,h0,h1=>⟨h0,h1⟩
 |c::l,n,k,hd,h0,h1=>by
  have hc:=hd c (nG ..);unfold jw at hc;simp only[mT,decide_eq_true_eq]at hc;have:=FG l (10*n+((c.toNat:Nat)-48:Int)) (k+1) (fun d h=>hd d (qj _ h)) iu (by rw[Int.pow_succ];omega);rw[show k+(c::l).length=k+1+l.length by rw[py];omega];exact this
theorem K' {s:yB} {k:Nat} (h:k<s.size):ud 0 (s.data.toList.take (k+1))=10*ud 0 (s.data.toList.take k)+((s[k].toNat:Nat)-48:Int):=by
 have j:k<s.data.toList:=h;rw[IX j];unfold ud;rw[List.foldl_append];rfl
theorem Cg (s:yB) (hd:∀c∈s.data.toList,jw (c.toNat:Nat)=true) (hs:s.size<=5) (w:yM):Calls prog 177 #[s] w fun e w'=>e=.returned (.int .i64 (rY s))/\ik w w':=by
 have hS:Hid (ud 0 (s.data.toList.take s.size)=rY s):=by show _=_;rw[Dn (lI (jr s))];rfl
 generalize rY s=X at hS;have HD:=iy hd;go_in;go_wp2_with fail;go_loopw [3] (fun v wr=>∃(k:Nat) (n:Int),k<=s.size/\v=.int .i64 n/\Hid (ud 0 (s.data.toList.take k)=n)/\0<=n/\n<100000/\Hid (wr=w.iter s k)) (fun _ wr=>s.size-World.iterPos wr w)
 ·exact⟨0,0,iu,rfl,rfl,iu,iu,rfl⟩
 case round=>
 obtain⟨k,n,hk,rfl,hn,h0,h1,hW⟩:=hrel;have hw:=hW.out;subst hw;by_cases j:k<s.size
 ·have hc:48<=s[k].toNat/\s[k].toNat<=57:=by
   have:=HD s[k] (om (by rw[zy j]));unfold jw at this;simp only[mT,decide_eq_true_eq]at this;omega
  have a7:(48:Int)<=(s[k].toNat:Int):=iu;have a6:(s[k].toNat:Int)<=57:=iu;have J:=fun I=>run_next_ascii (P:=prog) w s k I j iu
  have o:=K' j;rw[hn.out]at o;have hb:=FG (s.data.toList.take (k+1)) 0 0 (fun c h=>HD c (List.mem_of_mem_take h)) iu iI;have a8:(10:Int) ^ (0+(s.data.toList.take (k+1)).length)<=100000:=by
   have:0+(s.data.toList.take (k+1)).length<=5:=by rw[Fi,jr];omega
   generalize 0+(s.data.toList.take (k+1)).length=m at this;rcases (by omega:m=0\/m=1\/m=2\/m=3\/m=4\/m=5) with rfl | rfl | rfl | rfl | rfl | rfl<;>decide
  rw[o]at hb;have U:0<=10*n+((s[k].toNat:Int)-48):=hb.1;have R:10*n+((s[k].toNat:Int)-48)<100000:=iu;have HN:=iB o;go_wp2;exact⟨⟨k+1,_,j,rfl,HN,U,R,rfl⟩,by rw[World.iterPos_iter,World.iterPos_iter];omega⟩
 have a1:Hid (n=X):=by show _=_;rw[<- hn.out,<- hS.out,show k=s.size by omega]
 have J:=fun I=>run_next_end (P:=prog) w s k I j
 go_wp2;go_ret;exact⟨by rw[<- a1.out];rfl,Hk _⟩
def B9 (n:Int):List (yB×Int):=if n=0 then [(⟨#[111,114]⟩,4),(⟨#[120,111,114]⟩,5)] else if n=1 then [(⟨#[97,110,100]⟩,3)] else if n=3 then [(⟨#[61]⟩,11),(⟨#[60,62]⟩,12),(⟨#[60]⟩,13),(⟨#[60,61]⟩,14),(⟨#[62]⟩,15),(⟨#[62,61]⟩,16)] else if n=4 then [(⟨#[43]⟩,6),(⟨#[45]⟩,7)] else [(⟨#[42]⟩,8),(⟨#[47]⟩,9),(⟨#[109,111,100]⟩,10)]
def Bq (l:List (yB×Int)):DataW Unit:=l.foldl (fun D x=>D.put (.string x.1.data.toList) (.lit (.int .i64 x.2))) (.map [])
abbrev sE (w:yM) (b n:Nat) (D:DataW Unit):Prop:=w.ownsMap prog 9 (plainElem prog 3) b n D
theorem Ns:Maps.Keyed prog 9:=Maps.string_keyed underlying9
theorem sE.put {w:yM} {b n:Nat} {D:DataW Unit} (h:sE w b n D) (hn:n<100) (s:yB) (hs:s.size<=100) (v:Int) (hv:(Lit.int .i64 v).wf=true) :
  ∃w',(Instr.mapUpdate 252 (.map (some b)) (.string s) (.int .i64 v)).run prog w=.ok () w'/\sE w' b (n+1) (D.put (.string s.data.toList) (.lit (.int .i64 v)))/\w.grownBy w' (some b):=
 World.ownsMap.update h Ns underlying252 (by unfold maxLen;omega) (WideMaps.keyOf_string_mk underlying9 (by unfold maxLen;omega)) (plainElem_int underlying3 hv)
theorem jS {w w1 w2:yM} {b:Nat} (a:ik w w1) (g:w1.grownBy w2 (some b)) (hb:w<=b):ik w w2:=
 ⟨⟨g.os.trans a.below.os,g.tape.trans a.below.tape,g.output.trans a.below.output,jW a.below.size g.size,fun k hk=>(g.block k (rO hk a.below.size) (by intro e;injection e with e;omega)).trans (a.below.block k hk)⟩⟩
theorem M9 (n:Int) (hn:n=0) (w:yM):Calls prog 171 #[n] w fun e w'=>∃b,e=.returned (.map (some b))/\sE w' b 6 (Bq [(⟨#[111,114]⟩,4),(⟨#[120,111,114]⟩,5)])/\w.heap.size<=b/\ik w w':=by
 have R:=@run_makeMap prog;have J:sE (w.alloc (.map #[] 0)) w.heap.size 0 (.map []):=World.ownsMap_made w prog 9 _;subst hn;obtain⟨w1,r1,I,g1⟩:=J.put (by decide) ⟨#[111,114]⟩ (by decide) 4 (by decide);obtain⟨j,r2,o,U⟩:=I.put (by decide) ⟨#[120,111,114]⟩ (by decide) 5 (by decide);have HO:=iB o;have HA:Hid (ik w j):=(jS (jS (w1:=w.alloc (.map #[] 0)) zc g1 (js _)) U (js _));go_in;go_wp2;go_ret;exact⟨_,rfl,World.ownsMap.mono HO iI,js _,HA⟩
theorem Nf (n:Int) (hn:n=1) (w:yM):Calls prog 171 #[n] w fun e w'=>∃b,e=.returned (.map (some b))/\sE w' b 6 (Bq [(⟨#[97,110,100]⟩,3)])/\w.heap.size<=b/\ik w w':=by
 have I:=@run_makeMap prog;have o:sE (w.alloc (.map #[] 0)) w.heap.size 0 (.map []):=World.ownsMap_made w prog 9 _;subst hn;obtain⟨w1,r1,j,J⟩:=o.put (by decide) ⟨#[97,110,100]⟩ (by decide) 3 (by decide);have R:=iB j;have U:Hid (ik w w1):=(jS (w1:=w.alloc (.map #[] 0)) zc J (js _));go_in;go_wp2;go_ret;exact⟨_,rfl,World.ownsMap.mono R iI,js _,U⟩
theorem Mv (n:Int) (hn:n=3) (w:yM):Calls prog 171 #[n] w fun e w'=>∃b,e=.returned (.map (some b))/\sE w' b 6 (Bq [(⟨#[61]⟩,11),(⟨#[60,62]⟩,12),(⟨#[60]⟩,13),(⟨#[60,61]⟩,14),(⟨#[62]⟩,15),(⟨#[62,61]⟩,16)])/\w.heap.size<=b/\ik w w':=by
 have a1:=@run_makeMap prog;have o0:sE (w.alloc (.map #[] 0)) w.heap.size 0 (.map []):=World.ownsMap_made w prog 9 _;subst hn;obtain⟨w1,r1,o1,g1⟩:=o0.put (by decide) ⟨#[61]⟩ (by decide) 11 (by decide);obtain⟨w2,r2,U,g2⟩:=o1.put (by decide) ⟨#[60,62]⟩ (by decide) 12 (by decide);obtain⟨w3,r3,R,g3⟩:=U.put (by decide) ⟨#[60]⟩ (by decide) 13 (by decide);obtain⟨w4,r4,J,g4⟩:=R.put (by decide) ⟨#[60,61]⟩ (by decide) 14 (by decide);obtain⟨w5,r5,I,g5⟩:=J.put (by decide) ⟨#[62]⟩ (by decide) 15 (by decide);obtain⟨j,r6,o,g6⟩:=I.put (by decide) ⟨#[62,61]⟩ (by decide) 16 (by decide);have HO:=iB o;have HA:Hid (ik w j):=(jS (jS (jS (jS (jS (jS (w1:=w.alloc (.map #[] 0)) zc g1 (js _)) g2 (js _)) g3 (js _)) g4 (js _)) g5 (js _)) g6 (js _));go_in;go_wp2;go_ret;exact⟨_,rfl,World.ownsMap.mono HO iI,js _,HA⟩
theorem NV (n:Int) (hn:n=4) (w:yM):Calls prog 171 #[n] w fun e w'=>∃b,e=.returned (.map (some b))/\sE w' b 6 (Bq [(⟨#[43]⟩,6),(⟨#[45]⟩,7)])/\w.heap.size<=b/\ik w w':=by
 have R:=@run_makeMap prog;have J:sE (w.alloc (.map #[] 0)) w.heap.size 0 (.map []):=World.ownsMap_made w prog 9 _;subst hn;obtain⟨w1,r1,I,g1⟩:=J.put (by decide) ⟨#[43]⟩ (by decide) 6 (by decide);obtain⟨j,r2,o,U⟩:=I.put (by decide) ⟨#[45]⟩ (by decide) 7 (by decide);have HO:=iB o;have HA:Hid (ik w j):=(jS (jS (w1:=w.alloc (.map #[] 0)) zc g1 (js _)) U (js _));go_in;go_wp2;go_ret;exact⟨_,rfl,World.ownsMap.mono HO iI,js _,HA⟩
theorem Mh (n:Int) (h0:¬n=0) (h1:¬n=1) (h3:¬n=3) (h4:¬n=4) (w:yM):Calls prog 171 #[n] w fun e w'=>∃b,e=.returned (.map (some b))/\sE w' b 6 (Bq [(⟨#[42]⟩,8),(⟨#[47]⟩,9),(⟨#[109,111,100]⟩,10)])/\w.heap.size<=b/\ik w w':=by
 have U:=@run_makeMap prog;have R:sE (w.alloc (.map #[] 0)) w.heap.size 0 (.map []):=World.ownsMap_made w prog 9 _;have k0:(n==0)=false:=by rw[beq_eq_false_iff_ne];exact h0
 have k1:(n==1)=false:=by rw[beq_eq_false_iff_ne];exact h1
 have k3:(n==3)=false:=by rw[beq_eq_false_iff_ne];exact h3
 have k4:(n==4)=false:=by rw[beq_eq_false_iff_ne];exact h4
 obtain⟨w1,r1,J,g1⟩:=R.put (by decide) ⟨#[42]⟩ (by decide) 8 (by decide);obtain⟨w2,r2,I,g2⟩:=J.put (by decide) ⟨#[47]⟩ (by decide) 9 (by decide);obtain⟨j,r3,o,g3⟩:=I.put (by decide) ⟨#[109,111,100]⟩ (by decide) 10 (by decide);have HO:=iB o;have HA:Hid (ik w j):=(jS (jS (jS (w1:=w.alloc (.map #[] 0)) zc g1 (js _)) g2 (js _)) g3 (js _));go_in;go_wp2;go_ret;exact⟨_,rfl,World.ownsMap.mono HO iI,js _,HA⟩
theorem IH (n:Int) (w:yM):Calls prog 171 #[n] w fun e w'=>∃b,e=.returned (.map (some b))/\sE w' b 6 (Bq (B9 n))/\w.heap.size<=b/\ik w w':=by
 unfold B9;by_cases j:n=0
 ·rw[iG j];exact M9 n j w
 by_cases o:n=1
 ·rw[iV j,iG o];exact Nf n o w
 by_cases I:n=3
 ·rw[iV j,iV o,iG I];exact Mv n I w
 by_cases J:n=4
 ·rw[iV j,iV o,iV I,iG J];exact NV n J w
 rw[iV j,iV o,iV I,iV J];exact Mh n j o I J w
abbrev kf:=@pk.none
abbrev lN:=@pk.some
abbrev ko:=@uD.Qn
end Go.Proofs.YtnigblndonocfaaGreatDoor
