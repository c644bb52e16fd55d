/- A part of the proof. -/
import Derived.Test.YtnigblndonocfaaGreatDoorEId
set_option linter.unusedVariables false
set_option linter.unusedSimpArgs false
namespace Go.Proofs.YtnigblndonocfaaGreatDoor
set_option maxRecDepth 100000
set_option maxHeartbeats 1600000
open Go.Proofs.Tryz
open Go.RowKit Go.BigFrame
def ke (c:Int):Bool:=c==32||c==9||c==10||c==13
def xj (c:Int):Bool:=!(c==10)
def yc (c:Int):Bool:=c==48||c==49||c==40||c==41
theorem Lp (c:Int) (w:World):Calls prog 107 #[.int .u8 c] w fun e w'=>e=.returned (.bool (ke c))/\ik w w':=by
 go_in;go_wp2;all_goals
  go_ret;exact⟨iK (by unfold ke;apply Bool.eq_iff_iff.2;first | (simp;done) | (simp;omega)),iR⟩
theorem PW (c:Int) (w:World):Calls prog 108 #[.int .u8 c] w fun e w'=>e=.returned (.bool (xj c))/\ik w w':=by
 go_in;go_wp2;all_goals
  go_ret;exact⟨iK (by unfold xj;apply Bool.eq_iff_iff.2;first | (simp;done) | (simp;omega)),iR⟩
theorem QV (c:Int) (w:World):Calls prog 148 #[.int .u8 c] w fun e w'=>e=.returned (.bool (yc c))/\ik w w':=by
 go_in;go_wp2;all_goals
  go_ret;exact⟨iK (by unfold yc;apply Bool.eq_iff_iff.2;first | (simp;done) | (simp;omega)),iR⟩
def lO (w:World) (q i:Nat):Nat:=match w.cell? ⟨q,i,none⟩ with | some (.int _ n)=>n.toNat | _=>0
theorem je {w:World} {q i:Nat} {n:Int} {k:IntKind} (h:w.cell? ⟨q,i,none⟩=some (.int k n)):lO w q i=n.toNat:=by unfold lO;rw[h]
def Sc (w:World) (q:Nat) (s:ByteArray) (a:Nat):Prop:=iP w q 148 #[s,.int .i64 (a:Nat)]
def jv (p:Int->Bool) (s:ByteArray) (a:Nat):Nat:=((s.data.toList.drop a).takeWhile (fun c=>p c.toNat)).length
theorem oM (p:Int->Bool) (s:ByteArray) (a:Nat) (h:a<=s.size):a+jv p s a<=s.size:=by
 unfold jv;have o:=(List.takeWhile_prefix (l:=s.data.toList.drop a) (fun c:UInt8=>p c.toNat)).length_le;have j:(s.data.toList.drop a).length=s.size-a:=by rw[nY];rfl
 omega
theorem tF (p:Int->Bool) {s:ByteArray} {a:Nat} (h:s.size<=a):jv p s a=0:=by
 unfold jv;rw[Bn (by show s.data.toList.length<=a;exact h)];rfl
theorem BI {s:ByteArray} {a:Nat} (h:a<s.size):s.data.toList.drop a=s[a]::s.data.toList.drop (a+1):=by
 have j:a<s.data.toList.length:=h;rw[MG j];rfl
theorem xi (p:Int->Bool) {s:ByteArray} {a:Nat} (h:a<s.size) (hp:p s[a].toNat=false):jv p s a=0:=by
 unfold jv;rw[BI h,CZ,hp];rfl
theorem tp (p:Int->Bool) {s:ByteArray} {a:Nat} (h:a<s.size) (hp:p s[a].toNat=true):jv p s a=jv p s (a+1)+1:=by
 unfold jv;rw[BI h,CZ,hp];rfl
theorem IG {q a:Nat} {s:ByteArray} (hs:s.size<=140737488355328) (ha:a<=s.size) (w:World) (h:Sc w q s a) :
  Calls prog 106 #[.pointer (some q),.func (.func 107) #[] #[]] w fun e w'=>e=.returned (.string (s.extract a (a+jv ke s a)))/\Sc w' q s (a+jv ke s a)/\ik (iz q w) (iz q w'):=by
 have a_:=oM ke s a ha;obtain⟨z,hz⟩:∃z,a+jv ke s a=z:=⟨_,rfl⟩;rw[hz]at a_⊢;have HZ:=iB hz;have l0:=h.is_le;have c0:=(h.cell 0).trans rfl;have c1:=(h.cell 1).trans rfl;have HS:=iB h;go_in;go_wp2_with fail;go_loopw [] (fun wr=>∃k:Nat,a<=k/\k<=s.size/\Hid (k+jv ke s k=z)/\Hid (Sc wr q s k)/\ik (iz q w) (iz q wr)) (fun wr=>s.size-lO wr q 1)
 case atStart=>exact⟨a,js _,ha,HZ,HS,iq _⟩
 case round=>
 obtain⟨k,a',hk,hn,I,aw⟩:=hrel;have l0:=I.is_le;have c0:=(I.cell 0).trans rfl;have c1:=(I.cell 1).trans rfl;have f1:=I.frozen 1;have d1:Hid (lO wr q 1=k):=iB (je c1);by_cases o:k<s.size
 ·have J:(k:Int)<(s.size:Int):=by omega
  obtain⟨b,hb⟩:∃b,ke (s[k].toNat:Nat)=b:=⟨_,rfl⟩;have G:Hid (∀U,Calls prog 107 #[.int .u8 (s[k].toNat:Nat)] U fun e w'=>e=.returned (.bool b)/\ik U w'):=fun U=>hb▸Lp _ U
  have HB:=iB hb;go_wp2_with fail;refine iE (by kernel_rfl) (by kernel_rfl) ?_;repeat (go_big_quiet_step ((go_at_call 107;exact mR ((G _).mono fun e w' h=>⟨h.1,jP _ _ (h:=h.2)⟩))))
  refine wpQuiet_nil ?_;rintro _ ⟨y_,rfl⟩;cases b
  ·go_wp2_with fail
   have j:z=k:=by
    have R:=hn.out;rw[xi ke o HB.out]at R;omega
   subst j;have a8:(a:Int)<=(z:Int):=by omega
   have a7:(z:Int)<=(s.size:Int):=by omega
   refine iE (by kernel_rfl) (by kernel_rfl) ?_;repeat (go_big_quiet_step (fail))
   refine wpQuiet_nil ?_;rintro _ ⟨a6,rfl⟩;go_wp2;go_ret;exact⟨rfl,I.after (k:=inferInstance),ij aw (im inferInstance)⟩
  go_wp2_with fail;have a1:Sc ((wr.more y_).setCell ⟨q,1,none⟩ (.int .i64 (k+1))) q s (k+1):=((I.after (w':=wr.more y_)).jx 1 (.int .i64 (k+1)));exact⟨⟨k+1,by omega,by omega,(by have R:=hn.out;rw[tp ke o HB.out]at R;show _=_;omega),a1,ij aw (by rw[jJ];exact im inferInstance)⟩,by rw[je ((a1.cell 1).trans rfl),d1.out];omega⟩
 have J:¬((k:Int)<(s.size:Int)):=by omega
 go_wp2_with fail;refine iE (by kernel_rfl) (by kernel_rfl) ?_;repeat (go_big_quiet_step (fail))
 refine wpQuiet_nil ?_;rintro _ ⟨y_,rfl⟩;go_wp2_with fail;have j:z=k:=by
  have R:=hn.out;rw[tF ke (wb o)]at R;omega
 subst j;have a8:(a:Int)<=(z:Int):=iu;have a7:(z:Int)<=(s.size:Int):=iu;refine iE kp kp ?_;repeat (go_big_quiet_step (fail))
 refine wpQuiet_nil ?_;rintro _ ⟨a6,rfl⟩;go_wp2;go_ret;exact⟨rfl,I.after (k:=iR),ij aw (im iR)⟩
theorem JD {q a:Nat} {s:ByteArray} (hs:s.size<=140737488355328) (ha:a<=s.size) (w:World) (h:Sc w q s a) :
  Calls prog 106 #[.pointer (some q),.func (.func 111) #[] #[]] w fun e w'=>e=.returned (.string (s.extract a (a+jv jw s a)))/\Sc w' q s (a+jv jw s a)/\ik (iz q w) (iz q w'):=by
 have a_:=oM jw s a ha;obtain⟨z,hz⟩:∃z,a+jv jw s a=z:=⟨_,rfl⟩;rw[hz]at a_⊢;have HZ:=iB hz;have l0:=h.is_le;have c0:=(h.cell 0).trans rfl;have c1:=(h.cell 1).trans rfl;have HS:=iB h;go_in;go_wp2_with fail;go_loopw [] (fun wr=>∃k:Nat,a<=k/\k<=s.size/\Hid (k+jv jw s k=z)/\Hid (Sc wr q s k)/\ik (iz q w) (iz q wr)) (fun wr=>s.size-lO wr q 1)
 case atStart=>exact⟨a,js _,ha,HZ,HS,iq _⟩
 case round=>
 obtain⟨k,a',hk,hn,I,aw⟩:=hrel;have l0:=I.is_le;have c0:=(I.cell 0).trans rfl;have c1:=(I.cell 1).trans rfl;have f1:=I.frozen 1;have d1:Hid (lO wr q 1=k):=iB (je c1);by_cases o:k<s.size
 ·have J:(k:Int)<(s.size:Int):=by omega
  obtain⟨b,hb⟩:∃b,jw (s[k].toNat:Nat)=b:=⟨_,rfl⟩;have G:Hid (∀U,Calls prog 111 #[.int .u8 (s[k].toNat:Nat)] U fun e w'=>e=.returned (.bool b)/\ik U w'):=fun U=>hb▸Aw _ U
  have HB:=iB hb;go_wp2_with fail;refine iE (by kernel_rfl) (by kernel_rfl) ?_;repeat (go_big_quiet_step ((go_at_call 111;exact mR ((G _).mono fun e w' h=>⟨h.1,jP _ _ (h:=h.2)⟩))))
  refine wpQuiet_nil ?_;rintro _ ⟨y_,rfl⟩;cases b
  ·go_wp2_with fail
   have j:z=k:=by
    have R:=hn.out;rw[xi jw o HB.out]at R;omega
   subst j;have a8:(a:Int)<=(z:Int):=by omega
   have a7:(z:Int)<=(s.size:Int):=by omega
   refine iE (by kernel_rfl) (by kernel_rfl) ?_;repeat (go_big_quiet_step (fail))
   refine wpQuiet_nil ?_;rintro _ ⟨a6,rfl⟩;go_wp2;go_ret;exact⟨rfl,I.after (k:=inferInstance),ij aw (im inferInstance)⟩
  go_wp2_with fail;have a1:Sc ((wr.more y_).setCell ⟨q,1,none⟩ (.int .i64 (k+1))) q s (k+1):=((I.after (w':=wr.more y_)).jx 1 (.int .i64 (k+1)));exact⟨⟨k+1,by omega,by omega,(by have R:=hn.out;rw[tp jw o HB.out]at R;show _=_;omega),a1,ij aw (by rw[jJ];exact im inferInstance)⟩,by rw[je ((a1.cell 1).trans rfl),d1.out];omega⟩
 have J:¬((k:Int)<(s.size:Int)):=by omega
 go_wp2_with fail;refine iE (by kernel_rfl) (by kernel_rfl) ?_;repeat (go_big_quiet_step (fail))
 refine wpQuiet_nil ?_;rintro _ ⟨y_,rfl⟩;go_wp2_with fail;have j:z=k:=by
  have R:=hn.out;rw[tF jw (wb o)]at R;omega
 subst j;have a8:(a:Int)<=(z:Int):=iu;have a7:(z:Int)<=(s.size:Int):=iu;refine iE kp kp ?_;repeat (go_big_quiet_step (fail))
 refine wpQuiet_nil ?_;rintro _ ⟨a6,rfl⟩;go_wp2;go_ret;exact⟨rfl,I.after (k:=iR),ij aw (im iR)⟩
theorem Jf {q a:Nat} {s:ByteArray} (hs:s.size<=140737488355328) (ha:a<=s.size) (w:World) (h:Sc w q s a) :
  Calls prog 106 #[.pointer (some q),.func (.func 146) #[] #[]] w fun e w'=>e=.returned (.string (s.extract a (a+jv jQ s a)))/\Sc w' q s (a+jv jQ s a)/\ik (iz q w) (iz q w'):=by
 have a_:=oM jQ s a ha;obtain⟨z,hz⟩:∃z,a+jv jQ s a=z:=⟨_,rfl⟩;rw[hz]at a_⊢;have HZ:=iB hz;have l0:=h.is_le;have c0:=(h.cell 0).trans rfl;have c1:=(h.cell 1).trans rfl;have HS:=iB h;go_in;go_wp2_with fail;go_loopw [] (fun wr=>∃k:Nat,a<=k/\k<=s.size/\Hid (k+jv jQ s k=z)/\Hid (Sc wr q s k)/\ik (iz q w) (iz q wr)) (fun wr=>s.size-lO wr q 1)
 case atStart=>exact⟨a,js _,ha,HZ,HS,iq _⟩
 case round=>
 obtain⟨k,a',hk,hn,I,aw⟩:=hrel;have l0:=I.is_le;have c0:=(I.cell 0).trans rfl;have c1:=(I.cell 1).trans rfl;have f1:=I.frozen 1;have d1:Hid (lO wr q 1=k):=iB (je c1);by_cases o:k<s.size
 ·have J:(k:Int)<(s.size:Int):=by omega
  obtain⟨b,hb⟩:∃b,jQ (s[k].toNat:Nat)=b:=⟨_,rfl⟩;have G:Hid (∀U,Calls prog 146 #[.int .u8 (s[k].toNat:Nat)] U fun e w'=>e=.returned (.bool b)/\ik U w'):=fun U=>hb▸Ed _ U
  have HB:=iB hb;go_wp2_with fail;refine iE (by kernel_rfl) (by kernel_rfl) ?_;repeat (go_big_quiet_step ((go_at_call 146;exact mR ((G _).mono fun e w' h=>⟨h.1,jP _ _ (h:=h.2)⟩))))
  refine wpQuiet_nil ?_;rintro _ ⟨y_,rfl⟩;cases b
  ·go_wp2_with fail
   have j:z=k:=by
    have R:=hn.out;rw[xi jQ o HB.out]at R;omega
   subst j;have a8:(a:Int)<=(z:Int):=by omega
   have a7:(z:Int)<=(s.size:Int):=by omega
   refine iE (by kernel_rfl) (by kernel_rfl) ?_;repeat (go_big_quiet_step (fail))
   refine wpQuiet_nil ?_;rintro _ ⟨a6,rfl⟩;go_wp2;go_ret;exact⟨rfl,I.after (k:=inferInstance),ij aw (im inferInstance)⟩
  go_wp2_with fail;have a1:Sc ((wr.more y_).setCell ⟨q,1,none⟩ (.int .i64 (k+1))) q s (k+1):=((I.after (w':=wr.more y_)).jx 1 (.int .i64 (k+1)));exact⟨⟨k+1,by omega,by omega,(by have R:=hn.out;rw[tp jQ o HB.out]at R;show _=_;omega),a1,ij aw (by rw[jJ];exact im inferInstance)⟩,by rw[je ((a1.cell 1).trans rfl),d1.out];omega⟩
 have J:¬((k:Int)<(s.size:Int)):=by omega
 go_wp2_with fail;refine iE (by kernel_rfl) (by kernel_rfl) ?_;repeat (go_big_quiet_step (fail))
 refine wpQuiet_nil ?_;rintro _ ⟨y_,rfl⟩;go_wp2_with fail;have j:z=k:=by
  have R:=hn.out;rw[tF jQ (wb o)]at R;omega
 subst j;have a8:(a:Int)<=(z:Int):=iu;have a7:(z:Int)<=(s.size:Int):=iu;refine iE kp kp ?_;repeat (go_big_quiet_step (fail))
 refine wpQuiet_nil ?_;rintro _ ⟨a6,rfl⟩;go_wp2;go_ret;exact⟨rfl,I.after (k:=iR),ij aw (im iR)⟩
theorem N8 {q a:Nat} {s:ByteArray} (hs:s.size<=140737488355328) (ha:a<=s.size) (w:World) (h:Sc w q s a) :
  Calls prog 106 #[.pointer (some q),.func (.func 108) #[] #[]] w fun e w'=>e=.returned (.string (s.extract a (a+jv xj s a)))/\Sc w' q s (a+jv xj s a)/\ik (iz q w) (iz q w'):=by
 have a_:=oM xj s a ha;obtain⟨z,hz⟩:∃z,a+jv xj s a=z:=⟨_,rfl⟩;rw[hz]at a_⊢;have HZ:=iB hz;have l0:=h.is_le;have c0:=(h.cell 0).trans rfl;have c1:=(h.cell 1).trans rfl;have HS:=iB h;go_in;go_wp2_with fail;go_loopw [] (fun wr=>∃k:Nat,a<=k/\k<=s.size/\Hid (k+jv xj s k=z)/\Hid (Sc wr q s k)/\ik (iz q w) (iz q wr)) (fun wr=>s.size-lO wr q 1)
 case atStart=>exact⟨a,js _,ha,HZ,HS,iq _⟩
 case round=>
 obtain⟨k,a',hk,hn,I,aw⟩:=hrel;have l0:=I.is_le;have c0:=(I.cell 0).trans rfl;have c1:=(I.cell 1).trans rfl;have f1:=I.frozen 1;have d1:Hid (lO wr q 1=k):=iB (je c1);by_cases o:k<s.size
 ·have J:(k:Int)<(s.size:Int):=by omega
  obtain⟨b,hb⟩:∃b,xj (s[k].toNat:Nat)=b:=⟨_,rfl⟩;have G:Hid (∀U,Calls prog 108 #[.int .u8 (s[k].toNat:Nat)] U fun e w'=>e=.returned (.bool b)/\ik U w'):=fun U=>hb▸PW _ U
  have HB:=iB hb;go_wp2_with fail;refine iE (by kernel_rfl) (by kernel_rfl) ?_;repeat (go_big_quiet_step ((go_at_call 108;exact mR ((G _).mono fun e w' h=>⟨h.1,jP _ _ (h:=h.2)⟩))))
  refine wpQuiet_nil ?_;rintro _ ⟨y_,rfl⟩;cases b
  ·go_wp2_with fail
   have j:z=k:=by
    have R:=hn.out;rw[xi xj o HB.out]at R;omega
   subst j;have a8:(a:Int)<=(z:Int):=by omega
   have a7:(z:Int)<=(s.size:Int):=by omega
   refine iE (by kernel_rfl) (by kernel_rfl) ?_;repeat (go_big_quiet_step (fail))
   refine wpQuiet_nil ?_;rintro _ ⟨a6,rfl⟩;go_wp2;go_ret;exact⟨rfl,I.after (k:=inferInstance),ij aw (im inferInstance)⟩
  go_wp2_with fail;have a1:Sc ((wr.more y_).setCell ⟨q,1,none⟩ (.int .i64 (k+1))) q s (k+1):=((I.after (w':=wr.more y_)).jx 1 (.int .i64 (k+1)));exact⟨⟨k+1,by omega,by omega,(by have R:=hn.out;rw[tp xj o HB.out]at R;show _=_;omega),a1,ij aw (by rw[jJ];exact im inferInstance)⟩,by rw[je ((a1.cell 1).trans rfl),d1.out];omega⟩
 have J:¬((k:Int)<(s.size:Int)):=by omega
 go_wp2_with fail;refine iE (by kernel_rfl) (by kernel_rfl) ?_;repeat (go_big_quiet_step (fail))
 refine wpQuiet_nil ?_;rintro _ ⟨y_,rfl⟩;go_wp2_with fail;have j:z=k:=by
  have R:=hn.out;rw[tF xj (wb o)]at R;omega
 subst j;have a8:(a:Int)<=(z:Int):=iu;have a7:(z:Int)<=(s.size:Int):=iu;refine iE kp kp ?_;repeat (go_big_quiet_step (fail))
 refine wpQuiet_nil ?_;rintro _ ⟨a6,rfl⟩;go_wp2;go_ret;exact⟨rfl,I.after (k:=iR),ij aw (im iR)⟩
theorem Pn {q a:Nat} {s:ByteArray} (hs:s.size<=140737488355328) (ha:a<=s.size) (w:World) (h:Sc w q s a) :
  Calls prog 106 #[.pointer (some q),.func (.func 148) #[] #[]] w fun e w'=>e=.returned (.string (s.extract a (a+jv yc s a)))/\Sc w' q s (a+jv yc s a)/\ik (iz q w) (iz q w'):=by
 have a_:=oM yc s a ha;obtain⟨z,hz⟩:∃z,a+jv yc s a=z:=⟨_,rfl⟩;rw[hz]at a_⊢;have HZ:=iB hz;have l0:=h.is_le;have c0:=(h.cell 0).trans rfl;have c1:=(h.cell 1).trans rfl;have HS:=iB h;go_in;go_wp2_with fail;go_loopw [] (fun wr=>∃k:Nat,a<=k/\k<=s.size/\Hid (k+jv yc s k=z)/\Hid (Sc wr q s k)/\ik (iz q w) (iz q wr)) (fun wr=>s.size-lO wr q 1)
 case atStart=>exact⟨a,js _,ha,HZ,HS,iq _⟩
 case round=>
 obtain⟨k,a',hk,hn,I,aw⟩:=hrel;have l0:=I.is_le;have c0:=(I.cell 0).trans rfl;have c1:=(I.cell 1).trans rfl;have f1:=I.frozen 1;have d1:Hid (lO wr q 1=k):=iB (je c1);by_cases o:k<s.size
 ·have J:(k:Int)<(s.size:Int):=by omega
  obtain⟨b,hb⟩:∃b,yc (s[k].toNat:Nat)=b:=⟨_,rfl⟩;have G:Hid (∀U,Calls prog 148 #[.int .u8 (s[k].toNat:Nat)] U fun e w'=>e=.returned (.bool b)/\ik U w'):=fun U=>hb▸QV _ U
  have HB:=iB hb;go_wp2_with fail;refine iE (by kernel_rfl) (by kernel_rfl) ?_;repeat (go_big_quiet_step ((go_at_call 148;exact mR ((G _).mono fun e w' h=>⟨h.1,jP _ _ (h:=h.2)⟩))))
  refine wpQuiet_nil ?_;rintro _ ⟨y_,rfl⟩;cases b
  ·go_wp2_with fail
   have j:z=k:=by
    have R:=hn.out;rw[xi yc o HB.out]at R;omega
   subst j;have a8:(a:Int)<=(z:Int):=by omega
   have a7:(z:Int)<=(s.size:Int):=by omega
   refine iE (by kernel_rfl) (by kernel_rfl) ?_;repeat (go_big_quiet_step (fail))
   refine wpQuiet_nil ?_;rintro _ ⟨a6,rfl⟩;go_wp2;go_ret;exact⟨rfl,I.after (k:=inferInstance),ij aw (im inferInstance)⟩
  go_wp2_with fail;have a1:Sc ((wr.more y_).setCell ⟨q,1,none⟩ (.int .i64 (k+1))) q s (k+1):=((I.after (w':=wr.more y_)).jx 1 (.int .i64 (k+1)));exact⟨⟨k+1,by omega,by omega,(by have R:=hn.out;rw[tp yc o HB.out]at R;show _=_;omega),a1,ij aw (by rw[jJ];exact im inferInstance)⟩,by rw[je ((a1.cell 1).trans rfl),d1.out];omega⟩
 have J:¬((k:Int)<(s.size:Int)):=by omega
 go_wp2_with fail;refine iE (by kernel_rfl) (by kernel_rfl) ?_;repeat (go_big_quiet_step (fail))
 refine wpQuiet_nil ?_;rintro _ ⟨y_,rfl⟩;go_wp2_with fail;have j:z=k:=by
  have R:=hn.out;rw[tF yc (wb o)]at R;omega
 subst j;have a8:(a:Int)<=(z:Int):=iu;have a7:(z:Int)<=(s.size:Int):=iu;refine iE kp kp ?_;repeat (go_big_quiet_step (fail))
 refine wpQuiet_nil ?_;rintro _ ⟨a6,rfl⟩;go_wp2;go_ret;exact⟨rfl,I.after (k:=iR),ij aw (im iR)⟩
structure Tk where
 kind:Int
 text:ByteArray
def qM (s:ByteArray) (a:Nat):Int:=(((s.data.toList.drop a).headD 0).toNat:Nat)
theorem zo {s:ByteArray} {a:Nat} (h:a<s.size):qM s a=(s[a].toNat:Nat):=by unfold qM;rw[BI h];rfl
theorem zh (s:ByteArray) (b:Nat):(s.extract b s.size).data.toList=s.data.toList.drop b:=by
 rw[Lib.extract_to_end]
theorem jr (s:ByteArray):s.data.toList.length=s.size:=rfl
def uh:Nat->ByteArray->Nat->Nat
 |0,_,a=>a
 |k+1,s,a=>if Lib.hasPrefix (s.data.toList.drop (a+jv ke s a)) [45,45] then uh k s (a+jv ke s a+jv xj s (a+jv ke s a)) else a+jv ke s a
theorem EU {s:ByteArray} {a:Nat} (h:Lib.hasPrefix (s.data.toList.drop a) [45,45]=true):a<s.size/\0<jv xj s a:=by
 unfold jv;unfold Lib.hasPrefix at h;rw[List.isPrefixOf_iff_prefix]at h;obtain⟨t,j⟩:=h;rw[<- j];refine⟨?_,by simp[CZ,xj]⟩;rcases qa a s.size with o | o
 ·exact o
 rw[Bn (by show s.data.toList.length<=a;exact o)]at j;simp at j
theorem NC {q a:Nat} {s:ByteArray} (hs:s.size<=140737488355328) (ha:a<=s.size) {f:Nat} (hf:s.size-a<f) (w:World) (h:Sc w q s a) :
  Calls prog 66 #[.pointer (some q)] w fun e w'=>e=.returned (.tuple #[])/\uh f s a<=s.size/\Sc w' q s (uh f s a)/\ik (iz q w) (iz q w'):=by
 obtain⟨z,hz⟩:∃z,uh f s a=z:=⟨_,rfl⟩;rw[hz];have HZ:=iB hz;have l0:=h.is_le;have HS:=iB h;go_in;go_wp2_with fail;go_loopw [] (fun wr=>∃k f:Nat,k<=s.size/\s.size-k<f/\Hid (uh f s k=z)/\Hid (Sc wr q s k)/\ik (iz q w) (iz q wr)) (fun wr=>s.size-lO wr q 1)
 case atStart=>exact⟨a,f,ha,hf,HZ,HS,iq _⟩
 case round=>
 obtain⟨k,f,hk,hf,hn,HR,aw⟩:=hrel;have d1:Hid (lO wr q 1=k):=iB (je ((HR.cell 1).trans rfl));obtain⟨f,rfl⟩:∃g,f=g+1:=⟨f-1,by omega⟩;go_wp2_with fail;refine (IG hs hk wr HR).mono ?_;have j:=oM ke s k hk;have HN:Hid ((if Lib.hasPrefix (s.data.toList.drop (k+jv ke s k)) [45,45] then uh f s (k+jv ke s k+jv xj s (k+jv ke s k)) else k+jv ke s k)=z):=iB hn;have J:k<=k+jv ke s k:=Nat.le_add_right _ _;revert HN j J;generalize k+jv ke s k=b;intro j HN J e w1;rintro⟨rfl,I,a1⟩;have I:=iB I;have l0:=I.is_le;have c0:=(I.cell 0).trans rfl;have c1:=(I.cell 1).trans rfl;have a7:(0:Int)<=(b:Int):=by omega
 have a6:(b:Int)<=(s.size:Int):=by omega
 obtain⟨d,hd⟩:∃d,Lib.hasPrefix (s.data.toList.drop b) [45,45]=d:=⟨_,rfl⟩;have G:Hid (∀U,Calls prog 82 #[.string (s.extract b s.size),.string ⟨#[45,45]⟩] U fun e w'=>e=.returned (.bool d)/\w'=U):=fun U=>by
  have:=strings_HasPrefix (s.extract b s.size) ⟨#[45,45]⟩ U;rw[zh]at this;rw[<- hd];exact this
 have HD:=iB hd;go_wp2_with fail;refine iE (by kernel_rfl) (by kernel_rfl) ?_;repeat (go_big_quiet_step ((go_at_call 82;exact O5 ((G _).mono fun e w' h=>⟨h.1,h.2.symm⟩))))
 refine wpQuiet_nil ?_;rintro _ ⟨y_,rfl⟩;have R2:=iB (I.after (w':=w1.more y_));have a2:ik (iz q w) (iz q (w1.more y_)):=ij (ij aw a1) (im inferInstance);cases d
 ·go_wp2_with fail
  have o:=HN.out;rw[HD.out]at o;simp only[if_false,Bool.false_eq_true]at o;exact jR (v:=.tuple #[]) (by simp[results,results66]) rfl ⟨rfl,o▸j,o▸R2,a2⟩
 have hm:=EU HD;go_wp2_with fail;refine (N8 hs j _ R2).mono ?_;have R:=oM xj s b j;rintro e w3 ⟨rfl,R3,a3⟩;have R3:=iB R3;go_wp2;go_roundw
 case rel=>
  have o:=HN.out;rw[iG HD.out]at o;exact⟨_,f,R,by omega,o,R3,ij a2 a3⟩
 case measure=>(rw[je ((R3.out.cell 1).trans rfl),d1.out];omega)
def Gr (q:Nat) (s:ByteArray) (w:World) (r:Option (Tk×Nat)) (e:Ending) (w':World):Prop:=ik (iz q w) (iz q w')/\match r with
 |some (t,b)=>e=.returned (.tuple #[.agg #[.int .i64 t.kind,.string t.text,.int .i64 0],.int .i64 0])/\b<=s.size/\Sc w' q s b
 |none=>∃er:Int,e=.returned (.tuple #[.agg #[.int .i64 0,.string ⟨#[]⟩,.int .i64 0],er])/\er≠0/\0<=er/\er<=100
def tr (w:World) (r:Nat) (k:Int) (t:ByteArray):Prop:=iP w r 150 #[k,t,.int .i64 0]
theorem rr {s:ByteArray} {a n:Nat} (h:a+n<=s.size):(s.extract a (a+n)).size=n:=by
 rw[<- jr,Lib.extract_data,Fi,nY,jr];omega
theorem mV {w w1:World} {r q b:Nat} {s:ByteArray} {k0:Int} {t0:ByteArray} (hB:tr w1 r k0 t0) (R:Sc w1 q s b) (hrq:r≠q) (aw:ik (iz q w) (iz q w1)) (hr:w.heap.size<=r) (k:Int) (t:ByteArray) :
  ∃W,((w1.setCell r (.int .i64 k)).setCell ⟨r,1,none⟩ (.string t)).setCell ⟨r,2,none⟩ (.int .i64 0)=W/\W.cell? r=some (.int .i64 k)/\W.cell? ⟨r,1,none⟩=some (.string t)/\W.cell? ⟨r,2,none⟩=some (.int .i64 0)/\Sc W q s b/\ik (iz q w) (iz q W):=by
 have j:=((hB.jx 0 (.int .i64 k)).jx 1 (.string t)).jx 2 (.int .i64 0);have o:uD (iz q w) r:=⟨by rw[iZ];exact hr⟩;refine⟨_,rfl,(j.cell 0).trans rfl,(j.cell 1).trans rfl,(j.cell 2).trans rfl,((R.qU (p:=⟨r,0,none⟩) (ls hrq) _).qU (p:=⟨r,1,none⟩) (ls hrq) _).qU (p:=⟨r,2,none⟩) (ls hrq) _,?_⟩;exact iJ (h:=iJ (h:=iJ (h:=aw) 0 _) 1 _) 2 _
def Bb (m:Nat) (t:ByteArray) (b:Nat):Option (Tk×Nat):=if 40<m then none else some (⟨if OM t then 3 else 1,t⟩,b)
def BS (s:ByteArray) (a:Nat):Option (Tk×Nat):=Bb (jv jQ s a) (s.extract a (a+jv jQ s a)) (a+jv jQ s a)
theorem Lb {q a:Nat} {s:ByteArray} (hs:s.size<=140737488355328) (ha:a<=s.size) (w:World) (h:Sc w q s a) :
  Calls prog 110 #[.pointer (some q)] w (Gr q s w (BS s a)):=by
 have hq:=h.lt;obtain⟨r,hr⟩:=jt (w.heap.size);have U:=lI hr;have hB:tr (w.alloc (.cells #[.int .i64 0,.string ⟨#[]⟩,.int .i64 0] 150)) r 0 ⟨#[]⟩:=by have hb:=jC w 150 #[.int .i64 0,.string ⟨#[]⟩,.int .i64 0];rw[hr]at hb;exact hb
 obtain⟨w0,a7,a0,a'⟩:∃v,w.alloc (.cells #[.int .i64 0,.string ⟨#[]⟩,.int .i64 0] 150)=v/\ik (iz q w) (iz q v)/\Sc v q s a:=⟨_,rfl,by rw[tf w hq];exact iR,h.alloc _⟩;rw[a7]at hB;have o:r≠q:=iu;have HB:=iy (hB.mask o);have I:=oM jQ s a ha;have HC:=Jf hs ha w0 a';have HX:Hid (BS s a=Bb (jv jQ s a) (s.extract a (a+jv jQ s a)) (a+jv jQ s a)):=rfl;have R:=rr I;generalize s.extract a (a+jv jQ s a)=t at HX HC R;generalize BS s a=V at HX;generalize a_:a+jv jQ s a=b at HX HC I;generalize jv jQ s a=m at HX R a_;go_in;go_wp2_with fail;try rw[hr]
 try rw[a7]
 refine HC.mono ?_;rintro e w1 ⟨rfl,R1,a1⟩;have j:tr w1 r 0 ⟨#[]⟩:=lM (HB.after (w':=iz q w1) (k:=a1)) o;have l1:=j.is_le;have g0:=j.frozen 0;have g1:=j.frozen 1;have g2:=j.frozen 2;have f0:=(j.cell 0).trans rfl;have f1:=(j.cell 1).trans rfl;have f2:=(j.cell 2).trans rfl;have R1:=iy R1;have aw:=ij a0 a1;have HM:=iy R;have hm:m<=s.size:=iu;by_cases a6:40<t.size
 ·have a8:(40:Int)<(t.size:Int):=iu
  go_wp2_with fail;obtain⟨W,hW,x0,x1,x2,J,aW⟩:=mV j R1 o aw U (0) (⟨#[]⟩);rw[hW];exact jR (v:=.tuple #[.agg #[.int .i64 (0),.string (⟨#[]⟩),.int .i64 0],.int .i64 3]) (by simp[results,results110,go_sem,x0,x1,x2]) rfl ⟨aW,by rw[HX.out];unfold Bb;rw[iG (HM.out▸a6)];exact⟨3,rfl,iI,iI,iI⟩⟩
 have a8:(t.size:Int)<=40:=iu;obtain⟨d,hd⟩:=jt (OM t);have G:=iy (hd▸AJ t w1);have HD:=iy hd;go_wp2_with fail;refine G.mono ?_;rintro e w2 ⟨rfl,k2⟩;have j:tr w2 r 0 ⟨#[]⟩:=mZ (w:=w1) j;have R1:=iy (mZ (w':=w2) R1);have aw:=ij aw (im (q:=q) k2);have g0:=j.frozen 0;have g1:=j.frozen 1;have g2:=j.frozen 2;have f0:=(j.cell 0).trans rfl;have f1:=(j.cell 1).trans rfl;have f2:=(j.cell 2).trans rfl;cases d
 ·go_wp2_with fail
  obtain⟨W,hW,x0,x1,x2,J,aW⟩:=mV j R1 o aw U (1) (t);rw[hW];exact jR (v:=.tuple #[.agg #[.int .i64 (1),.string (t),.int .i64 0],.int .i64 0]) (by simp[results,results110,go_sem,x0,x1,x2]) rfl ⟨aW,by rw[HX.out];unfold Bb;rw[iV (HM.out▸a6),HD.out];exact⟨rfl,I,J⟩⟩
 go_wp2_with fail;obtain⟨W,hW,x0,x1,x2,J,aW⟩:=mV j R1 o aw U (3) (t);rw[hW];exact jR (v:=.tuple #[.agg #[.int .i64 (3),.string (t),.int .i64 0],.int .i64 0]) (by simp[results,results110,go_sem,x0,x1,x2]) rfl ⟨aW,by rw[HX.out];unfold Bb;rw[iV (HM.out▸a6),HD.out];exact⟨rfl,I,J⟩⟩
def Ft (t:ByteArray):Bool:=!Op.bytesLess t.toList [51,50,55,54,56]&&!t.toList==[51,50,55,54,56]
def rh (m:Nat) (t:ByteArray) (b:Nat):Option (Tk×Nat):=if (decide (1<m)&&qM t 0==48)=true then none else if (decide (5<m)||(decide (m=5)&&Ft t))=true then none else some (⟨2,t⟩,b)
def vw (s:ByteArray) (a:Nat):Option (Tk×Nat):=rh (jv jw s a) (s.extract a (a+jv jw s a)) (a+jv jw s a)
theorem Gw {q a:Nat} {s:ByteArray} (hs:s.size<=140737488355328) (ha:a<=s.size) (w:World) (h:Sc w q s a) :
  Calls prog 112 #[.pointer (some q)] w (Gr q s w (vw s a)):=by
 have hq:=h.lt;obtain⟨r,hr⟩:=jt (w.heap.size);have J:=lI hr;have hB:tr (w.alloc (.cells #[.int .i64 0,.string ⟨#[]⟩,.int .i64 0] 150)) r 0 ⟨#[]⟩:=by have hb:=jC w 150 #[.int .i64 0,.string ⟨#[]⟩,.int .i64 0];rw[hr]at hb;exact hb
 obtain⟨w0,a_,a0,ad⟩:∃v,w.alloc (.cells #[.int .i64 0,.string ⟨#[]⟩,.int .i64 0] 150)=v/\ik (iz q w) (iz q v)/\Sc v q s a:=⟨_,rfl,by rw[tf w hq];exact iR,h.alloc _⟩;rw[a_]at hB;have o:r≠q:=iu;have HB:=iy (hB.mask o);have a6:=oM jw s a ha;have HC:=JD hs ha w0 ad;have HX:Hid (vw s a=rh (jv jw s a) (s.extract a (a+jv jw s a)) (a+jv jw s a)):=rfl;have a7:=rr a6;generalize s.extract a (a+jv jw s a)=t at HX HC a7;generalize vw s a=V at HX;generalize ab:a+jv jw s a=b at HX HC a6;generalize jv jw s a=m at HX a7 ab;go_in;go_wp2_with fail;try rw[hr]
 try rw[a_]
 refine HC.mono ?_;rintro e w1 ⟨rfl,R1,a1⟩;have j:tr w1 r 0 ⟨#[]⟩:=lM (HB.after (w':=iz q w1) (k:=a1)) o;have l1:=j.is_le;have g0:=j.frozen 0;have g1:=j.frozen 1;have g2:=j.frozen 2;have f0:=(j.cell 0).trans rfl;have f1:=(j.cell 1).trans rfl;have f2:=(j.cell 2).trans rfl;have R1:=iB R1;have aw:=ij a0 a1;have HM:=iB a7;have hm:m<=s.size:=by omega
 by_cases h1:1<t.size
 ·have ae:(1:Int)<(t.size:Int):=by omega
  have af:0<t.size:=by omega
  have ah:(0:Int)<(t.size:Int):=by omega
  obtain⟨z,hz⟩:∃z,((t[0].toNat:Int)==48)=z:=⟨_,rfl⟩;have HA:Hid ((decide (1<m)&&qM t 0==48)=z):=by show _=_;rw[<- HM.out,lp h1,zo af];exact hz
  cases z
  ·by_cases h5:5<t.size
   ·have a':(5:Int)<(t.size:Int):=by omega
    have HV:Hid ((decide (5<m)||(decide (m=5)&&Ft t))=true):=by show _=_;rw[<- HM.out,lp h5];rfl
    go_wp2_with fail;obtain⟨W,hW,x0,U,R,I,aW⟩:=mV j R1 o aw J (0) (⟨#[]⟩);rw[hW];exact jR (v:=.tuple #[.agg #[.int .i64 (0),.string (⟨#[]⟩),.int .i64 0],.int .i64 14]) (by simp[results,results112,go_sem,x0,U,R]) rfl ⟨aW,by rw[HX.out];unfold rh;rw[iV (by rw[HA.out];simp),iG HV.out];exact⟨14,rfl,by decide,by decide,by decide⟩⟩
   have a':¬((5:Int)<(t.size:Int)):=by omega
   by_cases h6:t.size=5
   ·have a8:(t.size:Int)=5:=by omega
    obtain⟨z5,aa⟩:∃z,(!Op.bytesLess t.toList [51,50,55,54,56]&&!t.toList==[51,50,55,54,56])=z:=⟨_,rfl⟩;have HV:Hid ((decide (5<m)||(decide (m=5)&&Ft t))=z5):=by show _=_;rw[<- HM.out,decide_eq_false h5,lp h6];exact aa
    cases z5
    ·go_wp2_with fail
     all_goals (try (exfalso;simp_all;done))
     obtain⟨W,hW,x0,U,R,I,aW⟩:=mV j R1 o aw J (2) (t);rw[hW];exact jR (v:=.tuple #[.agg #[.int .i64 (2),.string (t),.int .i64 0],.int .i64 0]) (by simp[results,results112,go_sem,x0,U,R]) rfl ⟨aW,by rw[HX.out];unfold rh;rw[iV (by rw[HA.out];simp),iV (by rw[HV.out];simp)];exact⟨rfl,a6,I⟩⟩
    go_wp2_with fail;all_goals (try (exfalso;simp_all;done))
    obtain⟨W,hW,x0,U,R,I,aW⟩:=mV j R1 o aw J (0) (⟨#[]⟩);rw[hW];exact jR (v:=.tuple #[.agg #[.int .i64 (0),.string (⟨#[]⟩),.int .i64 0],.int .i64 14]) (by simp[results,results112,go_sem,x0,U,R]) rfl ⟨aW,by rw[HX.out];unfold rh;rw[iV (by rw[HA.out];simp),iG HV.out];exact⟨14,rfl,by decide,by decide,by decide⟩⟩
   have a8:¬((t.size:Int)=5):=by omega
   have ag:((t.size:Int)==5)=false:=by rw[beq_eq_false_iff_ne];exact a8
   have HV:Hid ((decide (5<m)||(decide (m=5)&&Ft t))=false):=by show _=_;rw[<- HM.out,decide_eq_false h5,decide_eq_false h6];rfl
   go_wp2_with fail;obtain⟨W,hW,x0,U,R,I,aW⟩:=mV j R1 o aw J (2) (t);rw[hW];exact jR (v:=.tuple #[.agg #[.int .i64 (2),.string (t),.int .i64 0],.int .i64 0]) (by simp[results,results112,go_sem,x0,U,R]) rfl ⟨aW,by rw[HX.out];unfold rh;rw[iV (by rw[HA.out];simp),iV (by rw[HV.out];simp)];exact⟨rfl,a6,I⟩⟩
  go_wp2_with fail;obtain⟨W,hW,x0,U,R,I,aW⟩:=mV j R1 o aw J (0) (⟨#[]⟩);rw[hW];exact jR (v:=.tuple #[.agg #[.int .i64 (0),.string (⟨#[]⟩),.int .i64 0],.int .i64 5]) (by simp[results,results112,go_sem,x0,U,R]) rfl ⟨aW,by rw[HX.out];unfold rh;rw[iG HA.out];exact⟨5,rfl,iI,iI,iI⟩⟩
 have ae:¬((1:Int)<(t.size:Int)):=iu;have HA:Hid ((decide (1<m)&&qM t 0==48)=false):=by show _=_;rw[<- HM.out,decide_eq_false h1];rfl
 have h5:¬(5<t.size):=iu;have h6:¬(t.size=5):=iu;have a':¬((5:Int)<(t.size:Int)):=iu;have a8:¬((t.size:Int)=5):=iu;have HV:Hid ((decide (5<m)||(decide (m=5)&&Ft t))=false):=by show _=_;rw[<- HM.out,decide_eq_false h5,decide_eq_false h6];rfl
 go_wp2_with fail;obtain⟨W,hW,x0,U,R,I,aW⟩:=mV j R1 o aw J (2) (t);rw[hW];exact jR (v:=.tuple #[.agg #[.int .i64 (2),.string (t),.int .i64 0],.int .i64 0]) (by simp[results,results112,go_sem,x0,U,R]) rfl ⟨aW,by rw[HX.out];unfold rh;rw[iV (by rw[HA.out];simp),iV (by rw[HV.out];simp)];exact⟨rfl,a6,I⟩⟩
def BL (s:ByteArray) (a:Nat):Option (Tk×Nat):=if a+1+jv yc s (a+1)<s.size/\qM s (a+1+jv yc s (a+1))=39 then some (⟨5,s.extract (a+1) (a+1+jv yc s (a+1))⟩,a+1+jv yc s (a+1)+1) else none
theorem Ld {q a:Nat} {s:ByteArray} (hs:s.size<=140737488355328) (ha:a<s.size) (w:World) (h:Sc w q s a) :
  Calls prog 113 #[.pointer (some q)] w (Gr q s w (BL s a)):=by
 have hq:=h.lt;have l0:=h.is_le;obtain⟨r,hr⟩:=jt (w.heap.size);have a6:=lI hr;have hB:tr (w.alloc (.cells #[.int .i64 0,.string ⟨#[]⟩,.int .i64 0] 150)) r 0 ⟨#[]⟩:=by have hb:=jC w 150 #[.int .i64 0,.string ⟨#[]⟩,.int .i64 0];rw[hr]at hb;exact hb
 obtain⟨w0,a8,a0,U⟩:∃v,w.alloc (.cells #[.int .i64 0,.string ⟨#[]⟩,.int .i64 0] 150)=v/\ik (iz q w) (iz q v)/\Sc v q s a:=⟨_,rfl,by rw[tf w hq];exact iR,h.alloc _⟩;rw[a8]at hB;have J:r≠q:=by omega
 have HB:=iB (hB.mask J);have a':=oM yc s (a+1) ha;have HC:=fun W (hW:Sc W q s (a+1))=>Pn hs ha W hW
 have HX:Hid (BL s a=if a+1+jv yc s (a+1)<s.size/\qM s (a+1+jv yc s (a+1))=39 then some (⟨5,s.extract (a+1) (a+1+jv yc s (a+1))⟩,a+1+jv yc s (a+1)+1) else none):=rfl;generalize s.extract (a+1) (a+1+jv yc s (a+1))=t at HX HC;generalize BL s a=V at HX;generalize ab:a+1+jv yc s (a+1)=b at HX HC a';have c1:=(U.cell 1).trans rfl;have c9:=U.frozen 1;have l0:=U.is_le;have S1:Sc (w0.setCell ⟨q,1,none⟩ (.int .i64 (a+1))) q s (a+1):=U.jx 1 (.int .i64 (a+1));have e1:(w0.setCell ⟨q,1,none⟩ (.int .i64 (a+1)))=(w0.setCell ⟨q,1,none⟩ (.int .i64 (a+1))):=rfl;have HC:=iB (HC _ S1);have af:(a:Int)+1<=s.size:=by omega
 have ag:=iy U;go_in;go_wp2_with fail;try rw[hr]
 try rw[a8]
 refine HC.mono ?_;rintro e I ⟨rfl,o,a1⟩;rw[jJ]at a1;have j:tr I r 0 ⟨#[]⟩:=lM (HB.after (w':=iz q I) (k:=a1)) J;have l1:=j.is_le;have g0:=j.frozen 0;have g1:=j.frozen 1;have g2:=j.frozen 2;have f0:=(j.cell 0).trans rfl;have f1:=(j.cell 1).trans rfl;have f2:=(j.cell 2).trans rfl;have o:=iB o;have aw:=ij a0 a1;have l0:=o.is_le;have c0:=(o.cell 0).trans rfl;have c1:=(o.cell 1).trans rfl;have c9:=o.frozen 1;by_cases hb:b<s.size
 ·have ae:(b:Int)<(s.size:Int):=by omega
  have a_:¬((b:Int)=(s.size:Int)):=by omega
  have ad:((b:Int)==(s.size:Int))=false:=by rw[beq_eq_false_iff_ne];exact a_
  obtain⟨z,hz⟩:∃z,((s[b].toNat:Int)==39)=z:=⟨_,rfl⟩;have HV:Hid ((qM s b==39)=z):=by show _=_;rw[zo hb];exact hz
  cases z
  ·go_wp2_with fail
   refine iE (by kernel_rfl) (by kernel_rfl) ?_;repeat (go_big_quiet_step (fail))
   refine wpQuiet_nil ?_;rintro _ ⟨R,rfl⟩;have aw:=ij aw (im (q:=q) (w:=I) (w':=I.more R) inferInstance);have j:tr (I.more R) r 0 ⟨#[]⟩:=mZ (w:=I) j;have o:=iB (mZ (w':=I.more R) o);go_wp2_with fail;obtain⟨W,hW,x0,x1,x2,a7,aW⟩:=mV j o J aw a6 (0) (⟨#[]⟩);rw[hW];exact jR (v:=.tuple #[.agg #[.int .i64 (0),.string (⟨#[]⟩),.int .i64 0],.int .i64 5]) (by simp[results,results113,go_sem,x0,x1,x2]) rfl ⟨aW,by rw[HX.out,iV (by intro h;have:=HV.out;rw[h.2]at this;exact absurd this (by decide))];exact⟨5,rfl,by decide,by decide,by decide⟩⟩
  go_wp2_with fail;refine iE (by kernel_rfl) (by kernel_rfl) ?_;repeat (go_big_quiet_step (fail))
  refine wpQuiet_nil ?_;rintro _ ⟨R,rfl⟩;have aw:=ij aw (im (q:=q) (w:=I) (w':=I.more R) inferInstance);have j:tr (I.more R) r 0 ⟨#[]⟩:=mZ (w:=I) j;have o:=iB (mZ (w':=I.more R) o);have c1:=(o.cell 1).trans rfl;have l0:=o.is_le;have c9:=o.frozen 1;go_wp2_with fail;obtain⟨v,hv,k1,k2,k3⟩:∃v,((I.more R).setCell ⟨q,1,none⟩ (.int .i64 (b+1)))=v/\tr v r 0 ⟨#[]⟩/\Sc v q s (b+1)/\ik (iz q w) (iz q v):=⟨_,rfl,j.qU (p:=⟨q,1,none⟩) J _,o.jx 1 (.int .i64 (b+1)),by rw[jJ];exact aw⟩;try rw[hv]
  have j:=k1;have o:=iB k2;have aw:=k3;obtain⟨W,hW,x0,x1,x2,a7,aW⟩:=mV j o J aw a6 (5) (t);rw[hW];exact jR (v:=.tuple #[.agg #[.int .i64 (5),.string (t),.int .i64 0],.int .i64 0]) (by simp[results,results113,go_sem,x0,x1,x2]) rfl ⟨aW,by rw[HX.out,iG ⟨hb,by simpa using HV.out⟩];exact⟨rfl,hb,a7⟩⟩
 have a_:(b:Int)=(s.size:Int):=by omega
 have aa:b=s.size:=by omega
 subst aa;go_wp2_with fail;refine iE (by kernel_rfl) (by kernel_rfl) ?_;repeat (go_big_quiet_step (fail))
 refine wpQuiet_nil ?_;rintro _ ⟨R,rfl⟩;have aw:=ij aw (im (q:=q) (w:=I) (w':=I.more R) inferInstance);have j:tr (I.more R) r 0 ⟨#[]⟩:=mZ (w:=I) j;have o:=iB (mZ (w':=I.more R) o);go_wp2_with fail;obtain⟨W,hW,x0,x1,x2,a7,aW⟩:=mV j o J aw a6 (0) (⟨#[]⟩);rw[hW];exact jR (v:=.tuple #[.agg #[.int .i64 (0),.string (⟨#[]⟩),.int .i64 0],.int .i64 5]) (by simp[results,results113,go_sem,x0,x1,x2]) rfl ⟨aW,by rw[HX.out,iV (by intro h;exact absurd h.1 (Nat.lt_irrefl _))];exact⟨5,rfl,iI,iI,iI⟩⟩
end Go.Proofs.YtnigblndonocfaaGreatDoor
