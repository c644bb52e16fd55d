/- A part of the proof. -/
import Derived.Test.YtnigblndonocfaaGreatDoorTLx
set_option linter.unusedVariables false
set_option linter.unusedSimpArgs false
namespace Go.Proofs.YtnigblndonocfaaGreatDoor
set_option maxRecDepth 100000
set_option maxHeartbeats 3200000
open Go.Proofs.Tryz
open Go.RowKit Go.BigFrame
def qx (r:List UInt8) (best t:ByteArray):ByteArray:=if decide (best.size<t.size)&&Lib.hasPrefix r t.data.toList then t else best
def ux (r:List UInt8) (l:List ByteArray):ByteArray:=l.foldl (qx r) ⟨#[]⟩
def vy (l:List ByteArray) (s:ByteArray) (a:Nat):Option (Tk×Nat):=if (ux (s.data.toList.drop a) l).size=0 then none else some (⟨4,ux (s.data.toList.drop a) l⟩,a+(ux (s.data.toList.drop a) l).size)
theorem JH {r:List UInt8} {best t:ByteArray} (h:best.size=0\/Lib.hasPrefix r best.data.toList=true):(qx r best t).size=0\/Lib.hasPrefix r (qx r best t).data.toList=true:=by
 unfold qx;cases hc:(decide (best.size<t.size)&&Lib.hasPrefix r t.data.toList)
 ·exact h
 right;rw[mT]at hc;exact hc.2
theorem Pf (r:List UInt8) (l:List ByteArray):(ux r l).size=0\/Lib.hasPrefix r (ux r l).data.toList=true:=by
 unfold ux;have:∀(l:List ByteArray) (b:ByteArray),(b.size=0\/Lib.hasPrefix r b.data.toList=true)->((l.foldl (qx r) b).size=0\/Lib.hasPrefix r (l.foldl (qx r) b).data.toList=true):=by
  intro l;induction l with
  |nil=>intro b h;exact h
  |cons t l ih=>intro b h;exact ih _ (JH h)
 exact this l _ (.inl rfl)
theorem Kp {s:ByteArray} {a:Nat} (ha:a<=s.size) (l:List ByteArray):a+(ux (s.data.toList.drop a) l).size<=s.size:=by
 rcases Pf (s.data.toList.drop a) l with h | h
 ·omega
 unfold Lib.hasPrefix at h;rw[List.isPrefixOf_iff_prefix]at h;have:=h.length_le;rw[nY,jr,jr]at this;omega
theorem Ae {r:List UInt8} {l:List ByteArray} {k:Nat} {t:ByteArray} (h:l[k]?=some t):ux r (l.take (k+1))=qx r (ux r (l.take k)) t:=by
 obtain⟨j,rfl⟩:=rq.1 h;unfold ux;rw[IX j,List.foldl_append];rfl
theorem FH {s t:ByteArray} {a:Nat} {d:Bool} (ha:a<=s.size) (h:Lib.hasPrefix (s.data.toList.drop a) t.data.toList=d) (hd:d=true):t.size<=s.size:=by
 subst hd;unfold Lib.hasPrefix at h;rw[List.isPrefixOf_iff_prefix]at h;have:=h.length_le;rw[nY,jr,jr]at this;omega
theorem JI {s:ByteArray} (h:s.size=0):s.toList.isEmpty=true:=by rw[Ie h,nC];rfl
theorem GZ {q a:Nat} {s:ByteArray} (hs:s.size<=140737488355328) (ha:a<=s.size) {A:Option Addr} {c:Nat} {l:List ByteArray} (w:World) (h:Sc w q s a) (hl:F4 w A c l) (hqA:∀b o,A=some ⟨b,o,none⟩->b≠q) :
  Calls prog 114 #[.pointer (some q),.slice A l.length c] w (Gr q s w (vy l s a)):=by
 have hq:=h.lt;have l0:=h.is_le;obtain⟨r,hr⟩:=jt (w.heap.size);have a7:w.heap.size<=r:=lI hr;have hB:tr (w.alloc (.cells #[.int .i64 0,.string ⟨#[]⟩,.int .i64 0] 150)) r 0 ⟨#[]⟩:=by have hb:=jC w 150 #[.int .i64 0,.string ⟨#[]⟩,.int .i64 0];rw[hr]at hb;exact hb
 obtain⟨w0,a1,aq,a0,ag⟩:∃v,w.alloc (.cells #[.int .i64 0,.string ⟨#[]⟩,.int .i64 0] 150)=v/\ik w v/\ik (iz q w) (iz q v)/\Sc v q s a:=⟨_,rfl,iR,by rw[tf w hq];exact iR,h.alloc _⟩;rw[a1]at hB;have I:r≠q:=iu;have HL:=iy (hl.here w0);have ai:=hl.len;have aj:=hl.cap;have al:=hl.le;have HB:=iy hB;have HS:=iy ag;have a_:=Kp ha l;have HX:Hid (vy l s a=if (ux (s.data.toList.drop a) l).size=0 then none else some (⟨4,ux (s.data.toList.drop a) l⟩,a+(ux (s.data.toList.drop a) l).size)):=rfl;generalize vy l s a=V at HX;obtain⟨Z,hZ⟩:=jt (ux (s.data.toList.drop a) l);rw[hZ]at HX a_;have HZ:=iy hZ;have ao:(a:Int)<=(s.size:Int):=iu;have an:(0:Int)<=(a:Int):=iu;go_in;go_wp2_with fail;try rw[hr]
 try rw[a1]
 go_loopw [6,11] (fun a' i wr=>∃(k:Nat) (z:ByteArray),k<=l.length/\i=.int .i64 (k:Nat)/\a'=.string z/\z.size<=s.size/\Hid (ux (s.data.toList.drop a) (l.take k)=z)/\ik w0 wr) (fun _ i _=>l.length-(intOf i).toNat)
 case atStart=>exact⟨0,⟨#[]⟩,iu,rfl,rfl,wB _,rfl,iq _⟩
 case round=>
 obtain⟨k,z,hk,rfl,rfl,R,hn,J⟩:=hrel;by_cases ad:k<l.length
 ·have a8:(k:Int)<(l.length:Int):=iu
  obtain⟨b,o,t,rfl,lb,hc,ht⟩:=(HL.here wr).at_ ad;have S1:=mZ (w':=wr) HS;have l0:=S1.is_le;have c0:=(S1.cell 0).trans rfl;have c1:=(S1.cell 1).trans rfl;obtain⟨d,hd⟩:=jt (Lib.hasPrefix (s.data.toList.drop a) t.data.toList);have G:Hid (∀U,Calls prog 82 #[.string (s.extract a s.size),t] U fun e w'=>e=.returned (.bool d)/\w'=U):=fun U=>by
   have:=strings_HasPrefix (s.extract a s.size) t U;rw[zh]at this;rw[<- hd];exact this
  have HD:=iy hd;have a6:=FH ha HD;by_cases hg:z.size<t.size
  ·have af:(z.size:Int)<(t.size:Int):=iu
   cases d
   ·go_wp2_with fail
    refine iE (by kernel_rfl) (by kernel_rfl) ?_;repeat (go_big_quiet_step ((go_at_call 82;exact O5 ((G _).mono fun e w' h=>⟨h.1,h.2.symm⟩))))
    refine wpQuiet_nil ?_;rintro _ ⟨y_,rfl⟩;go_wp2;go_roundw
    case rel=>exact⟨k+1,z,iu,by go_num,rfl,R,by rw[Ae ht.out,hn.out];unfold qx;rw[HD.out,qT];rfl,ij J iR⟩
    case measure=>simp[intOf];omega
   go_wp2_with fail;refine iE (by kernel_rfl) (by kernel_rfl) ?_;repeat (go_big_quiet_step ((go_at_call 82;exact O5 ((G _).mono fun e w' h=>⟨h.1,h.2.symm⟩))))
   refine wpQuiet_nil ?_;rintro _ ⟨y_,rfl⟩;go_wp2;go_roundw
   case rel=>exact⟨k+1,t,by omega,by go_num,rfl,(by first | exact a6 trivial | exact a6 rfl),by rw[Ae ht.out,hn.out];unfold qx;rw[HD.out,lp hg];rfl,ij J inferInstance⟩
   case measure=>simp[intOf];omega
  have af:¬((z.size:Int)<(t.size:Int)):=by omega
  go_wp2_with fail;refine iE (by kernel_rfl) (by kernel_rfl) ?_;repeat (go_big_quiet_step ((go_at_call 82;exact O5 ((G _).mono fun e w' h=>⟨h.1,h.2.symm⟩))))
  refine wpQuiet_nil ?_;rintro _ ⟨y_,rfl⟩;go_wp2;go_roundw
  case rel=>exact⟨k+1,z,by omega,by go_num,rfl,R,by rw[Ae ht.out,hn.out];unfold qx;rw[decide_eq_false hg,qu];rfl,ij J inferInstance⟩
  case measure=>simp[intOf];omega
 have a8:¬((k:Int)<(l.length:Int)):=by omega
 have ae:k=l.length:=by omega
 subst ae;have ab:z=Z:=by rw[<- HZ.out,<- hn.out,pf]
 subst ab;have j:tr wr r 0 ⟨#[]⟩:=mZ (w:=w0) HB;have R1:=iB (mZ (w':=wr) HS);have J:=ij a0 (im (q:=q) J);have l1:=j.is_le;have g0:=j.frozen 0;have g1:=j.frozen 1;have g2:=j.frozen 2;have f0:=(j.cell 0).trans rfl;have f1:=(j.cell 1).trans rfl;have f2:=(j.cell 2).trans rfl;have c1:=(R1.cell 1).trans rfl;have l0:=R1.is_le;have c9:=R1.frozen 1;by_cases h0:z.size=0
 ·have ah:=JI h0
  go_wp2_with fail;obtain⟨W,hW,x0,x1,x2,aa,aW⟩:=mV j R1 I J a7 (0) (⟨#[]⟩);rw[hW];exact jR (v:=.tuple #[.agg #[.int .i64 (0),.string (⟨#[]⟩),.int .i64 0],.int .i64 5]) (by simp[results,results114,go_sem,x0,x1,x2]) rfl ⟨aW,by rw[HX.out,iG h0];exact⟨5,rfl,by decide,by decide,by decide⟩⟩
 have ah:=Ec (Nat.pos_of_ne_zero h0);have ak:(a:Int)+(z.size:Int)<=s.size:=by omega
 go_wp2_with fail;obtain⟨v,hv,k1,k2,k3⟩:∃v,(wr.setCell ⟨q,1,none⟩ (.int .i64 (a+z.size)))=v/\tr v r 0 ⟨#[]⟩/\Sc v q s (a+z.size)/\ik (iz q w) (iz q v):=⟨_,rfl,j.qU (p:=⟨q,1,none⟩) I _,R1.jx 1 (.int .i64 (a+z.size)),by rw[jJ];exact J⟩;try rw[hv]
 obtain⟨W,hW,x0,x1,x2,aa,aW⟩:=mV k1 k2 I k3 a7 (4) (z);rw[hW];exact jR (v:=.tuple #[.agg #[.int .i64 (4),.string (z),.int .i64 0],.int .i64 0]) (by simp[results,results114,go_sem,x0,x1,x2]) rfl ⟨aW,by rw[HX.out,iV h0];exact⟨rfl,a_,aa⟩⟩
def xG:List ByteArray:=[⟨#[40]⟩,⟨#[41]⟩,⟨#[58]⟩,⟨#[59]⟩,⟨#[44]⟩,⟨#[61]⟩,⟨#[124]⟩,⟨#[45,62]⟩,⟨#[60,62]⟩,⟨#[60,61]⟩,⟨#[62,61]⟩,⟨#[60]⟩,⟨#[62]⟩,⟨#[43]⟩,⟨#[45]⟩,⟨#[42]⟩,⟨#[47]⟩]
def oK (s:ByteArray) (a:Nat):Option (Tk×Nat):=if mg (qM s a) then BS s a else if jw (qM s a) then vw s a else if qM s a==39 then BL s a else vy xG s a
theorem Gr.pass {q r:Nat} {s:ByteArray} {w w0 w1:World} {V:Option (Tk×Nat)} {e:Ending} {k0:Int} {t0:ByteArray} (hT:Gr q s w0 V e w1) (a0:ik (iz q w) (iz q w0)) (hB:tr w0 r k0 t0) (hrq:r≠q) (hr:w.heap.size<=r) :
  ∃(k:Int) (t:ByteArray) (er:Int),e=.returned (.tuple #[.agg #[k,t,.int .i64 0],er])/\tr w1 r k0 t0/\Hid (∃W,((w1.setCell r (.int .i64 k)).setCell ⟨r,1,none⟩ (.string t)).setCell ⟨r,2,none⟩ (.int .i64 0)=W/\W.cell? r=some (.int .i64 k)/\W.cell? ⟨r,1,none⟩=some (.string t)/\W.cell? ⟨r,2,none⟩=some (.int .i64 0)/\Gr q s w V (.returned (.tuple #[.agg #[k,t,.int .i64 0],er])) W):=by
 obtain⟨a1,h⟩:=hT;have j:tr w1 r k0 t0:=lM ((BR hB hrq).after (w':=iz q w1) (k:=a1)) hrq;have aw:=ij a0 a1;have hn:uD (iz q w) r:=⟨by rw[iZ];exact hr⟩;have I:∀(k:Int) (t:ByteArray),∃W,((w1.setCell r (.int .i64 k)).setCell ⟨r,1,none⟩ (.string t)).setCell ⟨r,2,none⟩ (.int .i64 0)=W/\W.cell? r=some (.int .i64 k)/\W.cell? ⟨r,1,none⟩=some (.string t)/\W.cell? ⟨r,2,none⟩=some (.int .i64 0)/\ik (iz q w) (iz q W)/\(∀b,Sc w1 q s b->Sc W q s b):=by
  intro k t;have o:=((j.jx 0 (.int .i64 k)).jx 1 (.string t)).jx 2 (.int .i64 0);exact⟨_,rfl,(o.cell 0).trans rfl,(o.cell 1).trans rfl,(o.cell 2).trans rfl,iJ (h:=iJ (h:=iJ (h:=aw) 0 _) 1 _) 2 _,fun b R=>((R.qU (p:=⟨r,0,none⟩) (ls hrq) _).qU (p:=⟨r,1,none⟩) (ls hrq) _).qU (p:=⟨r,2,none⟩) (ls hrq) _⟩
 cases V with
 |none=>
  obtain⟨er,he,h1,h2,o⟩:=h;obtain⟨W,k1,k2,k3,k4,U,k6⟩:=I 0 ⟨#[]⟩;exact⟨0,⟨#[]⟩,er,he,j,W,k1,k2,k3,k4,U,er,rfl,h1,h2,o⟩
 |some x=>
 obtain⟨J,b⟩:=x;obtain⟨he,h1,h2⟩:=h;obtain⟨W,k1,k2,k3,k4,U,k6⟩:=I J.kind J.text;exact⟨J.kind,J.text,0,he,j,W,k1,k2,k3,k4,U,rfl,h1,k6 b h2⟩
theorem Jt {q a:Nat} {s:ByteArray} (hs:s.size<=140737488355328) (ha:a<s.size) (w:World) (h:Sc w q s a) :
  Calls prog 67 #[.pointer (some q)] w (Gr q s w (oK s a)):=by
 have hq:=h.lt;obtain⟨r,hr⟩:∃r,w.heap.size=r:=⟨_,rfl⟩;have J:w.heap.size<=r:=lI hr;have hB:tr (w.alloc (.cells #[.int .i64 0,.string ⟨#[]⟩,.int .i64 0] 150)) r 0 ⟨#[]⟩:=by have hb:=jC w 150 #[.int .i64 0,.string ⟨#[]⟩,.int .i64 0];rw[hr]at hb;exact hb
 obtain⟨w0,a7,a0,U⟩:∃v,w.alloc (.cells #[.int .i64 0,.string ⟨#[]⟩,.int .i64 0] 150)=v/\ik (iz q w) (iz q v)/\Sc v q s a:=⟨_,rfl,by rw[tf w hq];exact inferInstance,h.alloc _⟩;rw[a7]at hB;have R:r≠q:=by omega
 have l0:=U.is_le;have c0:=(U.cell 0).trans rfl;have c1:=(U.cell 1).trans rfl;have ag:(a:Int)<(s.size:Int):=by omega
 have HB:=iB hB;have HS:=iB U;obtain⟨V,hV⟩:∃V,oK s a=V:=⟨_,rfl⟩;rw[hV];unfold oK at hV;rw[zo ha]at hV;have HL:=fun W=>yg (s[a].toNat:Nat) W
 have HG:=fun W=>Aw (s[a].toNat:Nat) W
 obtain⟨bl,a8⟩:∃b,mg (s[a].toNat:Nat)=b:=⟨_,rfl⟩;obtain⟨bd,a_⟩:∃b,jw (s[a].toNat:Nat)=b:=⟨_,rfl⟩;obtain⟨bq,ab⟩:∃b,((s[a].toNat:Int)==39)=b:=⟨_,rfl⟩;rw[a8,a_,ab]at hV;rw[a8]at HL;rw[a_]at HG;have HL:=iB HL;have HG:=iB HG;have HV:=iB hV;go_in;go_wp2_with fail;try rw[hr]
 try rw[a7]
 refine iE (by kernel_rfl) (by kernel_rfl) ?_;repeat (go_big_quiet_step (fail))
 refine wpQuiet_nil ?_;rintro _ ⟨y_,rfl⟩;obtain⟨w1,aa,a1,ae,ad⟩:∃v,w0.more y_=v/\ik (iz q w) (iz q v)/\tr v r 0 ⟨#[]⟩/\Sc v q s a:=⟨_,rfl,ij a0 (im inferInstance),mZ (w:=w0) HB,HS.after⟩;try rw[aa]
 go_wp2_with fail;refine (HL _).mono ?_;rintro e w2 ⟨rfl,k2⟩;have a2:=ij a1 (im (q:=q) k2);have B2:tr w2 r 0 ⟨#[]⟩:=mZ (w:=w1) ae;have S2:Sc w2 q s a:=ad.after;cases bl
 ·go_wp2_with fail
  refine (HG _).mono ?_;rintro e w3 ⟨rfl,k3⟩;have a3:=ij a2 (im (q:=q) k3);have B3:tr w3 r 0 ⟨#[]⟩:=mZ (w:=w2) B2;have S3:Sc w3 q s a:=S2.after;cases bd
  ·cases bq
   ·obtain⟨g,hg⟩:=jt (w3.heap.size)
    obtain⟨w4,a',a4,B4,S4,L4⟩:∃v,w3.alloc (.cells (xG.map Value.string).toArray 9)=v/\ik (iz q w) (iz q v)/\tr v r 0 ⟨#[]⟩/\Sc v q s a/\F4 v (some ⟨g,0,none⟩) 17 xG:=⟨_,rfl,ij a3 (im iR),B3.alloc _,S3.alloc _,F4.Oh (l:=xG) (t:=9) (hg▸jC w3 9 (xG.map Value.string).toArray) iI⟩;have af:g≠q:=by have:=S3.lt;omega
    have a6:w3.alloc (.cells #[.string ⟨#[40]⟩,.string ⟨#[41]⟩,.string ⟨#[58]⟩,.string ⟨#[59]⟩,.string ⟨#[44]⟩,.string ⟨#[61]⟩,.string ⟨#[124]⟩,.string ⟨#[45,62]⟩,.string ⟨#[60,62]⟩,.string ⟨#[60,61]⟩,.string ⟨#[62,61]⟩,.string ⟨#[60]⟩,.string ⟨#[62]⟩,.string ⟨#[43]⟩,.string ⟨#[45]⟩,.string ⟨#[42]⟩,.string ⟨#[47]⟩] 9)=w4:=a';have HB:=iy B4;have HC:=iy (GZ hs (CQ ha) w4 S4 L4 (fun b o h=>by injection h with h;injection h with h;omega));go_wp2_with fail;try rw[a6]
    refine HC.mono ?_;intro e w9 hT;obtain⟨k,t,er,rfl,j,HE⟩:=hT.pass a4 HB R J;have l1:=j.is_le;have g0:=j.frozen 0;have g1:=j.frozen 1;have g2:=j.frozen 2;have f0:=(j.cell 0).trans rfl;have f1:=(j.cell 1).trans rfl;have f2:=(j.cell 2).trans rfl;go_wp2_with fail;obtain⟨W,hW,x0,x1,x2,hE⟩:=HE;rw[hW];have I:=HV.out;simp only[if_true,if_false,Bool.false_eq_true]at I;rw[I]at hE;exact jR (v:=.tuple #[.agg #[k,t,.int .i64 0],er]) (by simp[results,results67,go_sem,x0,x1,x2]) rfl hE
   have HB:=iB B3;have HC:=iB (Ld hs ha w3 S3);go_wp2_with fail;refine HC.mono ?_;intro e w9 hT;obtain⟨k,t,er,rfl,j,HE⟩:=hT.pass a3 HB R J;have l1:=j.is_le;have g0:=j.frozen 0;have g1:=j.frozen 1;have g2:=j.frozen 2;have f0:=(j.cell 0).trans rfl;have f1:=(j.cell 1).trans rfl;have f2:=(j.cell 2).trans rfl;go_wp2_with fail;obtain⟨W,hW,x0,x1,x2,hE⟩:=HE;rw[hW];have I:=HV.out;simp only[if_true,if_false,Bool.false_eq_true]at I;rw[I]at hE;exact jR (v:=.tuple #[.agg #[k,t,.int .i64 0],er]) (by simp[results,results67,go_sem,x0,x1,x2]) rfl hE
  have HB:=iB B3;have HC:=iB (Gw hs (CQ ha) w3 S3);go_wp2_with fail;refine HC.mono ?_;intro e w9 hT;obtain⟨k,t,er,rfl,j,HE⟩:=hT.pass a3 HB R J;have l1:=j.is_le;have g0:=j.frozen 0;have g1:=j.frozen 1;have g2:=j.frozen 2;have f0:=(j.cell 0).trans rfl;have f1:=(j.cell 1).trans rfl;have f2:=(j.cell 2).trans rfl;go_wp2_with fail;obtain⟨W,hW,x0,x1,x2,hE⟩:=HE;rw[hW];have I:=HV.out;simp only[if_true,if_false,Bool.false_eq_true]at I;rw[I]at hE;exact jR (v:=.tuple #[.agg #[k,t,.int .i64 0],er]) (by simp[results,results67,go_sem,x0,x1,x2]) rfl hE
 have HB:=iB B2;have HC:=iB (Lb hs (CQ ha) w2 S2);go_wp2_with fail;refine HC.mono ?_;intro e w9 hT;obtain⟨k,t,er,rfl,j,HE⟩:=hT.pass a2 HB R J;have l1:=j.is_le;have g0:=j.frozen 0;have g1:=j.frozen 1;have g2:=j.frozen 2;have f0:=(j.cell 0).trans rfl;have f1:=(j.cell 1).trans rfl;have f2:=(j.cell 2).trans rfl;go_wp2_with fail;obtain⟨W,hW,x0,x1,x2,hE⟩:=HE;rw[hW];have I:=HV.out;simp only[if_true,if_false,Bool.false_eq_true]at I;rw[I]at hE;exact jR (v:=.tuple #[.agg #[k,t,.int .i64 0],er]) (by simp[results,results67,go_sem,x0,x1,x2]) rfl hE
theorem nF {w w':World} {B n size:Nat} {t:TypeId} {r:Value} {ys:List Value} (own:w.ownsRow B t size r n ys) (h:ik w w'):w'.ownsRow B t size r n ys:=by
 refine⟨own.1,own.2.imp id ?_⟩;rintro⟨g,a1,U,hv,J,I,j⟩;have o:g<w.heap.size:=by
  rcases qa g w.heap.size with R | R
  ·exact R
  rw[FF R]at I;cases I
 exact⟨g,a1,U,hv,J,(h.below.block g o).trans I,j⟩
def L2 (A:Option Addr) (c:Nat) (l:List Tx):Tx:=.mk 0 0 0 0 ⟨#[]⟩ A c l
theorem ki {w:World} {g:Nat} (hg:w.heap.size=g) (o:Array Value) (t:TypeId) (news:List Value) (h:o.toList=news) (n:Nat) (size:Nat) (hn:news.length=n*size):oZ (w.alloc (.cells o t)) (g+1) size (some ⟨g,0,none⟩) n news:=by
 subst hg;refine⟨hn,fun _=>⟨_,rfl,by simp,fun j u I=>?_⟩⟩;rw[yb,(jC w t o).cell,<- Array.getElem?_toList,h];simpa using I
section
theorem ny {w0 U w3:World} (h:∃y,w3=U.more y) (a:ik w0 U):ik w0 w3:=by obtain⟨y,rfl⟩:=h;infer_instance
instance:Inhabited Tx:=⟨.mk 0 0 0 0 ⟨#[]⟩ none 0 []⟩
def sH:Nat->ByteArray->Nat->Option (List Tk)
 |0,_,_=>none
 |f+1,s,a=>if uh (s.size+1) s a=s.size then some [] else match oK s (uh (s.size+1) s a) with
  |none=>none
  |some (t,c)=>(sH f s c).map (t::·)
theorem Gz:∀(f:Nat) (s:ByteArray) (a:Nat),a<=uh f s a
 |0,s,a=>js _
 |f+1,s,a=>by
  unfold uh;split
  ·have:=Gz f s (a+jv ke s a+jv xj s (a+jv ke s a))
   omega
  omega
theorem DU (p:Int->Bool) {s:ByteArray} {a:Nat} (h:a<s.size) (hp:p (s[a].toNat:Nat)=true):0<jv p s a:=by rw[tp p h hp];omega
theorem FP {s:ByteArray} {b c:Nat} {t:Tk} (hb:b<s.size) (h:oK s b=some (t,c)):b<c/\c<=s.size/\t.text.size<=s.size:=by
 unfold oK at h;rw[zo hb]at h;split at h
 ·rename_i hl
  unfold BS Bb at h;split at h
  ·cases h
  injection h with h
  injection h with j I
  have o:=oM jQ s b (CQ hb);have R:=DU jQ hb (by unfold jQ;rw[hl];rfl);refine⟨iu,iu,?_⟩;rw[<- j];show (s.extract b _).size<=_
  rw[rr o];omega
 split at h
 ·rename_i hl
  unfold vw rh at h;have o:=oM jw s b (CQ hb);have R:=DU jw hb hl;split at h
  ·cases h
  split at h
  ·cases h
  injection h with h
  injection h with j I
  refine⟨by omega,by omega,?_⟩;rw[<- j];show (s.extract b _).size<=_
  rw[rr o];omega
 split at h
 ·unfold BL at h
  split at h
  ·rename_i h5
   injection h with h
   injection h with j I
   have o:=oM yc s (b+1) hb;refine⟨iu,iu,?_⟩;rw[<- j];show (s.extract (b+1) _).size<=_
   rw[rr o];omega
  cases h
 unfold vy at h;split at h
 ·cases h
 injection h with h
 injection h with j I
 have o:=Kp (CQ hb) xG;revert j I o
 rename_i J
 revert J;generalize ux (s.data.toList.drop b) xG=z;intro J j I o;refine⟨iu,iu,?_⟩;rw[<- j];show z.size<=_
 omega
structure Om (w:World) (b o:Nat) (x:Tk):Prop where
 c0:w.cell? ⟨b,o,none⟩=some (.int .i64 x.kind)
 c1:w.cell? ⟨b,o+1,none⟩=some (.string x.text)
 c2:∃n:Nat,n<=65536/\w.cell? ⟨b,o+2,none⟩=some (.int .i64 n)
 nm:x.text.size<=65536
theorem xB:tO Om:=fun w w' b o y hb hlt h=>⟨(mH hb hlt).trans h.c0,(mH hb hlt).trans h.c1,(by obtain⟨n,hn,h2⟩:=h.c2;exact⟨n,hn,(mH hb hlt).trans h2⟩),h.nm⟩
theorem GC:Ai Om:=fun W w b o y k h=>⟨k.cell _ _ _ h.c0,k.cell _ _ _ h.c1,(by obtain⟨n,hn,h2⟩:=h.c2;exact⟨n,hn,k.cell _ _ _ h2⟩),h.nm⟩
theorem ir.so {α:Type} {sz:Nat} {P:World->Nat->Nat->α->Prop} {cells:α->List Value} (hc:∀y,(cells y).length=sz) {w:World} {base:Nat} {T:TypeId} {v:Value} {l:List α} (own:w.ownsRow base T sz v l.length (l.flatMap cells)) (hl:l.length<=140737488355328)
  (hP:∀b o y,b<w.heap.size->y∈l->(∀j u,(cells y)[j]?=some u->w.cell? ⟨b,o+j,none⟩=some u)->P w b o y):∃A c,v=.slice A l.length c/\ir sz P w ⟨A,c,l⟩:=by
 obtain⟨A,c,rfl,h1,h2⟩:=ji own;refine⟨A,c,rfl,⟨?_,h1,h2,hl⟩⟩;rcases own.2 with⟨hv,h0⟩ | ⟨g,cap,cur,hv,hbg,hh,hnc,hcap,hsz,htk⟩
 ·exact .inl (B_ h0)
 injection hv with hA
 subst hA;have I:g<w.heap.size:=by
  rcases qa g w.heap.size with R | R
  ·exact R
  rw[FF R]at hh;cases hh
 refine .inr ⟨g,0,rfl,I,fun i y U=>hP g _ y I (om U) fun j u hu=>?_⟩;have hj:j<sz:=by rw[<- hc y];exact (rq.1 hu).1
 have J:∀(l:List α) (i:Nat),l[i]?=some y->(l.flatMap cells)[i*sz+j]?=some u:=by
  intro l;induction l with
  |nil=>intro i h;simp at h
  |cons a l ih=>
  intro i h;rw[pZ];cases i with
  |zero=>
   simp at h;subst h;rw[zH,t_,wk (by rw[hc];exact hj)];exact hu
  |succ i=>
  rw[xK (by rw[hc,Nat.add_mul];omega),hc,show (i+1)*sz+j-sz=i*sz+j by rw[Nat.add_mul];omega];exact ih i (by simpa using h)
 have:=own.cells (g:=g) rfl (i*sz+j) u (J l i U);rw[yb]at this;rwa [t_]at this⊢
def vq (x:Tk×Nat):List Value:=[.int .i64 x.1.kind,.string x.1.text,.int .i64 (x.2:Nat)]
theorem ir.map {α β:Type} {sz:Nat} {P:World->Nat->Nat->α->Prop} {P':World->Nat->Nat->β->Prop} {w:World} {A:Option Addr} {c:Nat} {l:List α} (f:α->β) (h:ir sz P w ⟨A,c,l⟩) (hf:∀b o y,y∈l->P w b o y->P' w b o (f y)):ir sz P' w ⟨A,c,l.map f⟩:=by
 refine⟨?_,by simpa using h.le,h.cap,by simpa using h.len⟩;rcases h.cells with e | ⟨b,p,e,hlt,hc⟩
 ·simp only[]at e;subst e;exact .inl rfl
 refine .inr ⟨b,p,e,hlt,fun i y j=>?_⟩;simp only[JL,Option.map_eq_some_iff]at j;obtain⟨x,I,rfl⟩:=j;exact hf _ _ _ (om I) (hc i x I)
section
variable {q:Nat} {w w0 w':World} {row:Option Nat}
theorem z' (h:w.grownBy w' row):(iz q w).grownBy (iz q w') row:=by
 refine⟨h.os,h.tape,h.output,by rw[iZ,iZ];exact h.size,fun b j I=>?_⟩;rw[iZ]at j;by_cases o:b=q
 ·subst o
  rw[tN w j,tN w' (rO j h.size)]
 rw[km w o,km w' o];exact h.block b j I
theorem NA (a0:ik w w0) (hq:w.heap.size<=q) (h:ik (iz q w0) (iz q w')):ik w w':=by
 refine⟨⟨h.below.os.trans a0.below.os,h.below.tape.trans a0.below.tape,h.below.output.trans a0.below.output,?_,fun b o=>?_⟩⟩
 ·have:=h.below.size
  rw[iZ,iZ]at this;exact jW a0.below.size this
 have j:b≠q:=iu;have I:=h.below.block b (by rw[iZ];exact rO o a0.below.size);rw[km w' j,km w0 j]at I;exact I.trans (a0.below.block b o)
end
theorem PD:(prog.info? 150).map (fun i=>(i.zero,i.size,i.bytes))=some (some (.agg #[.int .i64 0,.string ⟨#[]⟩,.int .i64 0]),3,32):=by kernel_rfl
theorem L_ (ts:List (Tk×Nat)) (x:Tk×Nat):ts.flatMap vq++vq x=(ts++[x]).flatMap vq:=by simp
def RU (w:World) (r:Option (List Tk)) (e:Ending) (w':World):Prop:=ik w w'/\match r with
 |some ts=>∃A c,e=.returned (.tuple #[.slice A ts.length c,.int .i64 0,.int .i64 0])/\ir 3 Om w' ⟨A,c,ts⟩/\ts.length<=65536
 |none=>∃at_ er:Int,e=.returned (.tuple #[.slice none 0 0,at_,er])/\er≠0/\0<=er/\er<=100/\0<=at_/\at_<=65536
noncomputable def nP (s:ByteArray):Option (List Tk):=if 65536<s.size then none else sH (s.size+1) s 0
theorem Nn (s:ByteArray) (hs:s.size<=140737488355328) (w:World) :
  Calls prog 29 #[s] w (RU w (nP s)):=by
 by_cases R:65536<s.size
 ·have ae:(65536:Int)<(s.size:Int):=iu
  go_in;go_wp2;exact jR (v:=.tuple #[.slice none 0 0,.int .i64 0,.int .i64 3]) (by simp[results,results29,go_sem]) rfl ⟨inferInstance,by unfold nP;rw[iG R];exact⟨0,3,rfl,by decide,by decide,by decide,by decide,by decide⟩⟩
 have ae:¬((65536:Int)<(s.size:Int)):=iu;obtain⟨V,hV⟩:=jt (nP s);rw[hV];unfold nP at hV;rw[iV R]at hV;have I:=iy hV;obtain⟨q,hq⟩:=jt (w.heap.size);obtain⟨w0,ah,a0,aq⟩:∃v,w.alloc (.cells #[s,.int .i64 0] 148)=v/\ik w v/\Sc v q s 0:=⟨_,rfl,iR,by rw[<- hq];exact jC ..⟩;have HS:=iy aq;have aC:w0.heap.size=q+1:=by rw[<- ah,iH,hq]
 go_in;go_wp2_with fail;go_loopw [6] (fun ag wr=>∃(k f:Nat) (j:List (Tk×Nat)) (n:Nat),k<=s.size/\s.size-k<f/\n<=k/\Hid (j.length=n)/\Hid ((sH f s k).map (j.map Prod.fst++·)=V)/\Hid (∀x∈j,x.1.text.size<=65536/\x.2<=65536)/\Hid (Sc wr q s k)/\Hid (wr.ownsRow (q+1) 150 3 ag n (j.flatMap vq))/\ik (iz q w0) (iz q wr)) (fun _ wr=>s.size-lO wr q 1)
 case atStart=>exact⟨0,s.size+1,[],0,iu,iu,iu,rfl,by show _=_;rw[<- I.out];cases sH (s.size+1) s 0<;>rfl,fun x J=>by simp at J,HS,FL ..,iq _⟩
 case round=>
 obtain⟨k,f,j,n,hk,hf,av,hn,I,HT,HR,HO,aw⟩:=hrel;obtain⟨f,rfl⟩:∃g,f=g+1:=⟨f-1,iu⟩;have d1:=iy (je ((HR.cell 1).trans rfl));obtain⟨A,c,rfl,ax,az⟩:=ji HO;have U:=NC hs hk (f:=s.size+1) (by omega) wr HR;have hv:=I.out;unfold sH at hv;have aj:=Gz (s.size+1) s k;generalize uh (s.size+1) s k=b at U hv aj;have I:=iy hv;go_wp2_with fail;refine U.mono ?_;rintro e w1 ⟨rfl,aA,R1,a1⟩;have O1:=tM (nF (sG HO (Nat.lt_succ_self q)) a1) (Nat.lt_succ_self q);have a1:=ij aw a1;have R1:=iy R1;have O1:=iB O1;have l0:=R1.is_le;have c0:=(R1.cell 0).trans rfl;have c1:=(R1.cell 1).trans rfl;by_cases hb:b=s.size
 ·have ae:(b:Int)=(s.size:Int):=iu
  have af:=HT;go_wp2_with fail;have a8:some (j.map Prod.fst)=V:=by have h9:=I.out;rw[iG hb]at h9;simpa using h9
  have a6:=hn.out;have ab:∃A' c',Value.slice A n c=.slice A' j.length c'/\ir 3 Om w1 ⟨A',c',j.map Prod.fst⟩:=by
   obtain⟨A',c',h1,h2⟩:=ir.so (P:=fun w b o (x:Tk×Nat)=>Om w b o x.1) (sz:=3) (cells:=vq) (fun y=>rfl) (l:=j) (by rw[a6];exact O1) (by omega) (fun b o y hb hy h=>⟨h 0 _ rfl,h 1 _ rfl,⟨y.2,(af y hy).2,h 2 _ rfl⟩,(af y hy).1⟩);exact⟨A',c',h1,h2.map Prod.fst fun b o y _ h=>h⟩
  obtain⟨A',c',h1,h2⟩:=ab;injection h1 with e1 e2 e3
  subst e1 e3;exact jR (v:=.tuple #[.slice A n c,.int .i64 0,.int .i64 0]) (by simp[results,results29,go_sem]) rfl ⟨NA a0 (lI hq) a1,by rw[<- a8];exact⟨A,c,by rw[pE,a6],h2,by rw[pE,a6];omega⟩⟩
 have ao:¬((b:Int)=(s.size:Int)):=by omega
 have aB:((b:Int)==(s.size:Int))=false:=by rw[beq_eq_false_iff_ne];exact ao
 have aa:b<s.size:=by omega
 have U:=Jt hs aa w1 R1;have hv:((match oK s b with | none=>none | some (t,c)=>(sH f s c).map (t::·):Option (List Tk)).map (j.map Prod.fst++·))=V:=by have h9:=I.out;rw[iV hb]at h9;exact h9
 have a7:∀t c,oK s b=some (t,c)->b<c/\c<=s.size/\t.text.size<=s.size:=fun t c h=>FP aa h
 generalize oK s b=X at U hv a7;have U:=iB U;have I:=iB hv;have HM:=iB a7;clear hv a7;go_wp2_with fail;refine U.mono ?_;clear U;rintro e w2 ⟨a2,h⟩;have O2:=tM (nF (sG O1 (Nat.lt_succ_self q)) a2) (Nat.lt_succ_self q);have a2:=ij a1 a2;have O2:=iy O2;clear O1 R1 l0 c0 c1;cases X with
 |none=>
  obtain⟨er,rfl,ad,al,ak⟩:=h;have ay:(er != 0)=true:=by rw[bne_iff_ne];exact ad
  have a8:none=V:=I;clear I;go_wp2;exact jR (v:=.tuple #[.slice none 0 0,.int .i64 (b:Nat),er]) (by simp[results,results29,go_sem]) rfl ⟨NA a0 (lI hq) (tD a2 iR),by rw[<- a8];exact⟨b,er,rfl,ad,al,ak,iu,iu⟩⟩
 |some x=>
 obtain⟨t,c2⟩:=x;obtain⟨rfl,an,R2⟩:=h;obtain⟨m1,m2,m3⟩:=HM t c2 rfl;have R2:=iy R2;clear HM;obtain⟨w3,ar,a3,b3,s3,O3,R3⟩:∃v,w2.alloc (.cells #[.int .i64 t.kind,.string t.text,.int .i64 (b:Nat)] 150)=v/\ik (iz q w0) (iz q v)/\iP v w2.heap.size 150 #[.int .i64 t.kind,.string t.text,.int .i64 (b:Nat)]/\v.heap.size=w2.heap.size+1/\Hid (v.ownsRow (q+1) 150 3 (.slice A n c) n (j.flatMap vq))/\Hid (Sc v q s c2):=⟨_,rfl,ij a2 (im inferInstance),jC ..,iH ..,O2.alloc _,R2.alloc _⟩;have au:q+1<=w3.heap.size:=R3.lt;clear s3 O2 R2;have l3:=b3.is_le;have y0:=(b3.cell 0).trans rfl;have y1:=(b3.cell 1).trans rfl;have y2:=(b3.cell 2).trans rfl;go_wp2_with (at_builtin;obtain⟨i0,hi0,hz0,hz1,hz2⟩:=info_parts PD;refine ka (w3.alloc (.cells #[.int .i64 t.kind,.string t.text,.int .i64 (b:Nat)] 150)) rfl (.tmp 41) (.tmp 43) 91 rfl (q+1) 150 i0 _ 3 _ underlying91 hi0 hz0 hz1 hz2 rfl (by decide) _ n _ rfl (O3.out.alloc _) _ _ 1 1 [.int .i64 t.kind,.string t.text,.int .i64 (b:Nat)] rfl (ki (w:=w3) rfl #[.int .i64 t.kind,.string t.text,.int .i64 (b:Nat)] 150 _ rfl 1 3 rfl) (by intro u hu;simp only[la]at hu;rcases hu with rfl | rfl | rfl<;>rfl) (by unfold maxLen;omega) (by omega) (by rw[iH];omega) ?_;intro r4 W4 own4 hg4 hnx4;clear hi0 hz0 hz1 hz2;have own4:=iB own4;have hg4:=iB hg4;clear hnx4)
 have a':∀g,(Value.slice A n c).ownBlock=some g->q+1<=g:=fun g hg=>(O3.out.lt g hg).1
 have ai:some q≠(Value.slice A n c).ownBlock:=fun e=>by have:=a' q e.symm;omega
 have R4:Sc W4 q s c2:=oY (R3.out.alloc (.cells #[.int .i64 t.kind,.string t.text,.int .i64 (b:Nat)] 150)) hg4.out ai;have a4:ik (iz q w0) (iz q W4):=vm (h:=tD a3 (w':=w3.alloc (.cells #[.int .i64 t.kind,.string t.text,.int .i64 (b:Nat)] 150)) inferInstance) (sG (O3.out.alloc (.cells #[.int .i64 t.kind,.string t.text,.int .i64 (b:Nat)] 150)) (Nat.lt_succ_self q)) (by rw[iZ];omega) (z' hg4.out);have a_:W4.ownsRow (q+1) 150 3 r4 (n+1) ((j++[(t,b)]).flatMap vq):=by rw[<- L_];exact own4
 go_roundw
 case rel=>
  refine⟨c2,f,j++[(t,b)],n+1,an,iu,iu,by (show _=_;rw[mo,hn.out];rfl),?_,?_,R4,a_,a4⟩
  ·show _=_
   rw[<- I.out];cases sH f s c2 with
   |none=>rfl
   |some l=>simp
  intro x J;rcases ue.1 J with J | J
  ·exact HT x J
  simp only[la]at J;subst J;exact⟨by show t.text.size<=65536;omega,by show b<=65536;omega⟩
 case measure=>(rw[je ((R4.cell 1).trans rfl),d1.out];omega)
end
abbrev KK:=@ir.so
end Go.Proofs.YtnigblndonocfaaGreatDoor
