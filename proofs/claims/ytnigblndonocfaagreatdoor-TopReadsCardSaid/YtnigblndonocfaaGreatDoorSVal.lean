/- A part of the proof. -/
import Derived.Test.YtnigblndonocfaaGreatDoorESize
set_option linter.unusedVariables false
set_option linter.unusedSimpArgs false
namespace Go.Proofs.YtnigblndonocfaaGreatDoor
set_option maxRecDepth 100000
set_option maxHeartbeats 1600000
open Go.Proofs.Tryz
open Go.RowKit Go.BigFrame
def jV (l:List iW) (t:Int):Nat:=if t=1 then 2 else if t=2 then 65536 else if 3<=t then (match l[(t-3).toNat]? with | some u=>u.tags.l.length | none=>0) else 0
def nq (l:List iW) (t v:Int):Bool:=if t=2 then decide (-32768<=v)&&decide (v<=32767) else decide (0<=v)&&decide (v<(jV l t:Int))
theorem N1 {w:World} {x:nB iW} (h:ir 2 sM w x) (t:Int):jV x.l t<=140737488355328:=by
 unfold jV;split
 ·omega
 split
 ·omega
 split
 ·split
  ·rename_i u hu
   rcases h.cells with e | ⟨b,p,e,hlt,hc⟩
   ·rw[e]at hu;simp at hu
   exact (hc _ _ hu).tg.len
  omega
 omega
theorem Lz {w0:World} {x:nB iW} (h:ir 2 sM w0 x) (w:World) (hw:ik w0 w) (t:Int) (ht:t<=9223372036854775807) (h1:t≠1) (h2:t≠2) :
  Calls prog 131 #[.slice x.A x.l.length x.c,t] w fun e w'=>∃(s:ByteArray) (A:Option Addr) (c:Nat) (b:Value),e=.returned (.tuple #[.agg #[s,.slice A (jV x.l t) c],b])/\ik w w':=by
 have hl:=h.len;obtain⟨A,c,l⟩:=x;simp only[]at hl⊢;have z:=iy (jC w 57 #[.string ⟨#[]⟩,.slice none 0 0]);by_cases h3:t<3
 ·have J:jV l t=0:=by unfold jV;rw[iV h1,iV h2,iV iu]
  rw[J];have j:=(z.jx 0 (.string ⟨#[]⟩)).jx 1 (.slice none 0 0);have I:(((w.alloc (.cells #[.string ⟨#[]⟩,.slice none 0 0] 57)).setCell ⟨w.heap.size,0,none⟩ (.string ⟨#[]⟩)).setCell ⟨w.heap.size,1,none⟩ (.slice none 0 0)).cell? ⟨w.heap.size,0,none⟩=some (.string ⟨#[]⟩):=by rw[j.cell];rfl
  have o:(((w.alloc (.cells #[.string ⟨#[]⟩,.slice none 0 0] 57)).setCell ⟨w.heap.size,0,none⟩ (.string ⟨#[]⟩)).setCell ⟨w.heap.size,1,none⟩ (.slice none 0 0)).cell? ⟨w.heap.size,1,none⟩=some (.slice none 0 0):=by rw[j.cell];rfl
  go_in;go_wp2_with fail;refine jR (v:=.tuple #[.agg #[.string ⟨#[]⟩,.slice none 0 0],.bool false]) (by simp[results,results131,go_sem,I,o]) rfl ?_;first | exact⟨_,_,_,_,rfl,iR⟩ | exact⟨⟨_,_,_,_,rfl⟩,iR⟩ | infer_instance
 by_cases h4:t-3<(l.length:Int)
 ·obtain⟨n,hn⟩:∃n:Nat,t-3=n:=⟨(t-3).toNat,iu⟩
  obtain⟨b,p,y,rfl,a_,HY,hP⟩:=(h.enums w).part (i:=n) (by show n<l.length;omega);simp only[]at HY;have J:jV l t=y.tags.l.length:=by unfold jV;rw[iV h1,iV h2,iG iu,hn,Int.toNat_natCast,HY.out]
  rw[J];have e0:=hP.c0;have e1:=hP.c1;have a8:¬((l.length:Int)<=(n:Int)):=iu;have a':(n:Int)<(l.length:Int):=iu;have j:=(z.jx 0 (.string y.name)).jx 1 (.slice y.tags.A y.tags.l.length y.tags.c);obtain⟨U,a1⟩:=jt (y.name);obtain⟨A9,a7⟩:=jt (y.tags.A);obtain⟨n9,R⟩:=jt (y.tags.l.length);obtain⟨c9,a6⟩:=jt (y.tags.c);rw[a1]at e0 j;rw[a7,R,a6]at e1 j;rw[R];have I:(((w.alloc (.cells #[.string ⟨#[]⟩,.slice none 0 0] 57)).setCell ⟨w.heap.size,0,none⟩ (.string U)).setCell ⟨w.heap.size,1,none⟩ (.slice A9 n9 c9)).cell? ⟨w.heap.size,0,none⟩=some (.string U):=by rw[j.cell];rfl
  have o:(((w.alloc (.cells #[.string ⟨#[]⟩,.slice none 0 0] 57)).setCell ⟨w.heap.size,0,none⟩ (.string U)).setCell ⟨w.heap.size,1,none⟩ (.slice A9 n9 c9)).cell? ⟨w.heap.size,1,none⟩=some (.slice A9 n9 c9):=by rw[j.cell];rfl
  go_in;go_wp2_with fail;refine jR (v:=.tuple #[.agg #[U,.slice A9 n9 c9],.bool true]) (by simp[results,results131,go_sem,I,o]) rfl ?_;first | exact⟨_,_,_,_,rfl,iR⟩ | exact⟨⟨_,_,_,_,rfl⟩,iR⟩ | infer_instance
 have J:jV l t=0:=by unfold jV;rw[iV h1,iV h2,iG iu,LH iu]
 rw[J];have a8:(l.length:Int)<=t-3:=iu;have j:=(z.jx 0 (.string ⟨#[]⟩)).jx 1 (.slice none 0 0);have I:(((w.alloc (.cells #[.string ⟨#[]⟩,.slice none 0 0] 57)).setCell ⟨w.heap.size,0,none⟩ (.string ⟨#[]⟩)).setCell ⟨w.heap.size,1,none⟩ (.slice none 0 0)).cell? ⟨w.heap.size,0,none⟩=some (.string ⟨#[]⟩):=by rw[j.cell];rfl
 have o:(((w.alloc (.cells #[.string ⟨#[]⟩,.slice none 0 0] 57)).setCell ⟨w.heap.size,0,none⟩ (.string ⟨#[]⟩)).setCell ⟨w.heap.size,1,none⟩ (.slice none 0 0)).cell? ⟨w.heap.size,1,none⟩=some (.slice none 0 0):=by rw[j.cell];rfl
 go_in;go_wp2_with fail;refine jR (v:=.tuple #[.agg #[.string ⟨#[]⟩,.slice none 0 0],.bool false]) (by simp[results,results131,go_sem,I,o]) rfl ?_;first | exact⟨_,_,_,_,rfl,iR⟩ | exact⟨⟨_,_,_,_,rfl⟩,iR⟩ | infer_instance
theorem uS {w0:World} {x:nB iW} (h:ir 2 sM w0 x) (w:World) (hw:ik w0 w) (t:Int) (ht:t<=9223372036854775807) :
  Calls prog 120 #[.slice x.A x.l.length x.c,t] w fun e w'=>e=.returned (.int .i64 (jV x.l t:Nat))/\ik w w':=by
 by_cases o:t=1
 ·subst o
  go_in;go_wp2;go_ret;exact⟨rfl,iR⟩
 by_cases j:t=2
 ·subst j
  go_in;go_wp2;go_ret;exact⟨rfl,inferInstance⟩
 have I:=iB (Lz h w hw t ht o j);have b1:(t==1)=false:=by simpa using o
 have U:(t==2)=false:=by simpa using j
 obtain⟨n,J⟩:∃n,jV x.l t=n:=⟨_,rfl⟩;rw[J]at I⊢;go_in;go_wp2_with fail;refine I.mono ?_;rintro e R ⟨s,A,c,b,rfl,a2⟩;go_wp2;go_ret;exact⟨rfl,iR⟩
theorem OS (v:Int) (w:World):Calls prog 156 #[v] w fun e w'=>e=.returned (.bool (decide (-32768<=v)&&decide (v<=32767)))/\w'=w:=by
 by_cases o:-32768<=v
 ·by_cases j:v<=32767
  all_goals
   go_in;go_wp2;go_ret;exact⟨iK (by simp[o,j]),rfl⟩
 go_in;go_wp2;go_ret;exact⟨iK (by simp;omega),rfl⟩
theorem Ch {w0:World} {x:nB iW} (h:ir 2 sM w0 x) (w:World) (hw:ik w0 w) (t v:Int) (ht:t<=9223372036854775807) :
  Calls prog 121 #[.slice x.A x.l.length x.c,t,v] w fun e w'=>e=.returned (.bool (nq x.l t v))/\ik w w':=by
 unfold nq;by_cases o:t=2
 ·subst o
  rw[iG rfl];have R:=iy (OS v w);obtain⟨q,hq⟩:=jt ((decide (-32768<=v)&&decide (v<=32767)));rw[hq]at R⊢;go_in;go_wp2_with fail;refine R.mono ?_;rintro e U ⟨rfl,j⟩;rw[j];go_wp2;go_ret;exact⟨rfl,inferInstance⟩
 rw[iV o];have b2:(t==2)=false:=by simpa using o
 by_cases I:0<=v
 ·have J:=iB (uS h w hw t ht)
  obtain⟨n,hn⟩:∃n,jV x.l t=n:=⟨_,rfl⟩;rw[hn]at J⊢;rw[show decide (0<=v)=true by simpa using I,xI];go_in;go_wp2_with fail;refine J.mono ?_;rintro e U ⟨rfl,a2⟩;go_wp2;go_ret;exact⟨rfl,a2⟩
 rw[show decide (0<=v)=false by simpa using I,qu];go_in;go_wp2;go_ret;exact⟨rfl,iR⟩
end Go.Proofs.YtnigblndonocfaaGreatDoor
