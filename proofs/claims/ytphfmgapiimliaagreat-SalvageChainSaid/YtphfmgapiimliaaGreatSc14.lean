/- When a log's state may be: plain. block.Seqs. head.follows. -/
import Derived.Test.YtphfmgapiimliaaGreatSc06
import Derived.Test.YtphfmgapiimliaaGreatSc13
import Derived.Test.YtphfmgapiimliaaGreatSc05
import Derived.Deep.QuietTactic
import Derived.BigQuiet
namespace Go.Proofs.YtphfmgapiimliaaGreat
namespace Op
open Go.RowKit Hd Rd Sn
def hdOf (s:St):En:=s.mf.es.getLast?.getD default
def hsz (i g f:Int):Int:=((hdrB i.toNat g.toNat f.toNat).size:Int)
def endI (x:En) (l:List Mi):Int:=match l.getLast? with
 |none=>hsz x.i x.g x.f
 |some m=>m.a+m.s
def nextI (f:Int) (l:List Mi):Int:=match l.getLast? with
 |none=>f
 |some m=>m.f+m.c
def timeM:Int->List Mi->Option Int
 |t,[]=>some t
 |t,m::l=>if m.e<t then none else timeM m.l l
def timeR:Int->List Rc->Option Int
 |t,[]=>some t
 |t,r::l=>if r.2.1<t then none else timeR r.2.1 l
def timedB (s:St):Bool:=match timeM (lateE s.mf.es) s.bs with
 |none=>false
 |some t=>match timeR t s.wt with
  |none=>false
  |some t=>decide (t<=s.nw/\s.mf.t<=s.nw/\s.nw<=1000000000)
def rawR (l:List Rc):Nat:=l.foldl (fun n r=>min (n+(recB r).length) 1000000) 0
def keptB (s:St):Bool:=okCf s.cf&&okMf s.mf
def firstM (f:Int):List Mi->Bool
 | []=>true
 |m::_=>decide (m.f=f)
def firstR (f:Int):List Rc->Bool
 | []=>true
 |r::_=>decide (r.1=f)
def laidB (s:St):Bool:=okBi s.bs&&(decide (endI (hdOf s) s.bs=s.sz)&&firstM (hdOf s).f s.bs)
def waitsB (s:St):Bool:=decide (Rd.rowE none s.wt=0)&&(decide ((rawR s.wt:Int)<s.cf.b)&&(decide (s.nx=nextI (hdOf s).f s.bs+s.wt.length)&&firstR (nextI (hdOf s).f s.bs) s.wt))
def okSt (s:St):Bool:=keptB s&&(laidB s&&(waitsB s&&timedB s))
end Op
end Go.Proofs.YtphfmgapiimliaaGreat
namespace Go.Proofs.YtphfmgapiimliaaGreat
namespace Bk
open Go.RowKit
def rg (lo hi:Int):Value:=.agg #[.int .i64 lo,.int .i64 hi]
set_option maxHeartbeats 6400000 in
set_option maxRecDepth 100000 in
theorem seqs_at (a s:Int) (raw c first early late:Nat) (w:World) (h:first+c<=1000000000) :
  Calls Tryz.prog 194 #[magg a s raw (c+1:Nat) first early late] w fun e w'=>e=.returned (rg first (first+c:Nat))/\Below w.heap.size w w':=by
 have mixed:Tryz.prog.follows .mixedOrders=true:=by kernel_rfl
 have h1: ¬ (((c+1:Nat):Int)<1):=by omega
 have h2:IntKind.i64.wrap (((c+1:Nat):Int)-1)=(c:Int):=by rw[IntKind.wrap_i64];omega
 have h3:IntKind.i64.wrap (9223372036854775807-(c:Int))=9223372036854775807-(c:Int):=by rw[IntKind.wrap_i64];omega
 have h4: ¬ (9223372036854775807-(c:Int)<(first:Int)):=by omega
 have h5:IntKind.i64.wrap ((first:Int)+(c:Int))=((first+c:Nat):Int):=by rw[IntKind.wrap_i64];omega
 have HB:=Lib.hid h;clear h;unfold magg rg;generalize ((c+1:Nat):Int)=C at *
 go_enter Tryz.func194, Tryz.ntmps194
 go_wp2_with fail
 refine bodyPost_ret (v:=.agg #[.int .i64 first,.int .i64 ((first:Int)+c)]) (by simp[results,go_sem]) rfl ?_;exact⟨by simp,(ext_alloc w _).trans ((ext_alloc _ _).mono (by simp))⟩
theorem seqs_any (raw c first early late:Nat) (w:World) (h:first+c<=1000000000) :
  Calls Tryz.prog 194 #[magg 0 0 raw (c+1:Nat) first early late] w fun e w'=>e=.returned (rg first (first+c:Nat))/\Below w.heap.size w w':=seqs_at 0 0 raw c first early late w h
theorem run_lo (w:World) (x y:Int):Sem.run Tryz.prog (Instr.field 259 (.agg #[.int .i64 x,.int .i64 y]) 0) w=.ok (.int .i64 x) w:=by
 have hu:=Tryz.underlying259;have h3:=Tryz.underlying3;simp[Instr.field,hu,h3,asAgg,part,isAgg,go_sem]
theorem run_hi (w:World) (x y:Int):Sem.run Tryz.prog (Instr.field 259 (.agg #[.int .i64 x,.int .i64 y]) 1) w=.ok (.int .i64 y) w:=by
 have hu:=Tryz.underlying259;have h3:=Tryz.underlying3;simp[Instr.field,hu,h3,asAgg,part,isAgg,go_sem]
end Bk
end Go.Proofs.YtphfmgapiimliaaGreat
namespace Go.Proofs.YtphfmgapiimliaaGreat
namespace Sn
open Go.RowKit Hd Bk
theorem seqs_mt (m:Mt) (w:World) (h:okM m=true):Calls Tryz.prog 194 #[mv m] w fun e w'=>e=.returned (rg m.f (m.f+(m.c-1):Nat))/\Below w.heap.size w w':=by
 rw[okM_iff] at h;have:=seqs_at m.a m.s m.r (m.c-1) m.f m.e m.l w (by omega);unfold mv
 rwa [show m.c-1+1=m.c by omega] at this
set_option maxHeartbeats 3200000 in
set_option maxRecDepth 100000 in
theorem follows_any (p m:Mt) (w:World) (hp:okM p=true) (hm:okM m=true) :
  Calls Tryz.prog 149 #[mv p,mv m] w fun e w'=>e=.returned (.bool (folB p m))/\Below w.heap.size w w':=by
 have mixed:Tryz.prog.follows .mixedOrders=true:=by kernel_rfl
 have HS:=Lib.hid (fun w=>seqs_mt p w hp);rw[okM_iff] at hp hm;have hfol:=folB_iff p m;have HB:=Lib.hid ((ext_alloc w (.cells #[.int .i64 p.a,.int .i64 p.s,.int .i64 p.r,.int .i64 p.c,.int .i64 p.f,.int .i64 p.e,.int .i64 p.l] 66)).trans ((ext_alloc _ (.cells #[.int .i64 m.a,.int .i64 m.s,.int .i64 m.r,.int .i64 m.c,.int .i64 m.f,.int .i64 m.e,.int .i64 m.l] 66)).mono (by simp)));have hp':(p.f+(p.c-1)+1:Nat)=p.f+p.c:=by omega
 have M1:=Lib.hid (show Mb ((w.alloc (.cells #[.int .i64 p.a,.int .i64 p.s,.int .i64 p.r,.int .i64 p.c,.int .i64 p.f,.int .i64 p.e,.int .i64 p.l] 66)).alloc (.cells #[.int .i64 m.a,.int .i64 m.s,.int .i64 m.r,.int .i64 m.c,.int .i64 m.f,.int .i64 m.e,.int .i64 m.l] 66)) w.heap.size p.a p.s p.r p.c p.f p.e p.l from
  (Below.heap_alloc _ _ _ (by simp)).trans (heap_alloc_new w _))
 have M2:=Lib.hid (show Mb ((w.alloc (.cells #[.int .i64 p.a,.int .i64 p.s,.int .i64 p.r,.int .i64 p.c,.int .i64 p.f,.int .i64 p.e,.int .i64 p.l] 66)).alloc (.cells #[.int .i64 m.a,.int .i64 m.s,.int .i64 m.r,.int .i64 m.c,.int .i64 m.f,.int .i64 m.e,.int .i64 m.l] 66)) (w.heap.size+1) m.a m.s m.r m.c m.f m.e m.l from by
  have hh:=heap_alloc_new (w.alloc (.cells #[.int .i64 p.a,.int .i64 p.s,.int .i64 p.r,.int .i64 p.c,.int .i64 p.f,.int .i64 p.e,.int .i64 p.l] 66)) (.cells #[.int .i64 m.a,.int .i64 m.s,.int .i64 m.r,.int .i64 m.c,.int .i64 m.f,.int .i64 m.e,.int .i64 m.l] 66);rw[show(w.alloc (.cells #[.int .i64 p.a,.int .i64 p.s,.int .i64 p.r,.int .i64 p.c,.int .i64 p.f,.int .i64 p.e,.int .i64 p.l] 66)).heap.size=w.heap.size+1 by simp] at hh;exact hh)
 unfold mv magg;generalize folB p m=r at *
 obtain⟨pa,ps,pr,pc,pf,pe,pl⟩:=p;obtain⟨ma,ms,mr,mc,mf,me,ml⟩:=m;unfold mv magg rg at HS;dsimp only at *
 have HF:=Lib.hid hfol;have HP:=Lib.hid hp';have HK:=Lib.hid (And.intro hp hm);clear hfol hp'
 go_enter Tryz.func149, Tryz.ntmps149
 go_wp2_with fail
 generalize (w.alloc (.cells #[.int .i64 pa,.int .i64 ps,.int .i64 pr,.int .i64 pc,.int .i64 pf,.int .i64 pe,.int .i64 pl] 66)).alloc (.cells #[.int .i64 ma,.int .i64 ms,.int .i64 mr,.int .i64 mc,.int .i64 mf,.int .i64 me,.int .i64 ml] 66)=w2 at *
 have l1:=M1.out.lt;have l2:=M2.out.lt;have a0:∀q:Bw w2,q.to.cell? ⟨w.heap.size,0,none⟩=some (.int .i64 pa):=fun q=>q.cell l1 M1.out.c0
 have a1:∀q:Bw w2,q.to.cell? ⟨w.heap.size,1,none⟩=some (.int .i64 ps):=fun q=>q.cell l1 M1.out.c1
 have a2:∀q:Bw w2,q.to.cell? ⟨w.heap.size,2,none⟩=some (.int .i64 pr):=fun q=>q.cell l1 M1.out.c2
 have a3:∀q:Bw w2,q.to.cell? ⟨w.heap.size,3,none⟩=some (.int .i64 pc):=fun q=>q.cell l1 M1.out.c3
 have a4:∀q:Bw w2,q.to.cell? ⟨w.heap.size,4,none⟩=some (.int .i64 pf):=fun q=>q.cell l1 M1.out.c4
 have a5:∀q:Bw w2,q.to.cell? ⟨w.heap.size,5,none⟩=some (.int .i64 pe):=fun q=>q.cell l1 M1.out.c5
 have a6:∀q:Bw w2,q.to.cell? ⟨w.heap.size,6,none⟩=some (.int .i64 pl):=fun q=>q.cell l1 M1.out.c6
 have b0:∀q:Bw w2,q.to.cell? ⟨w.heap.size+1,0,none⟩=some (.int .i64 ma):=fun q=>q.cell l2 M2.out.c0
 have b4:∀q:Bw w2,q.to.cell? ⟨w.heap.size+1,4,none⟩=some (.int .i64 mf):=fun q=>q.cell l2 M2.out.c4
 have b5:∀q:Bw w2,q.to.cell? ⟨w.heap.size+1,5,none⟩=some (.int .i64 me):=fun q=>q.cell l2 M2.out.c5
 have s1:IntKind.i64.wrap ((pa:Int)+(ps:Int))=(pa:Int)+ps:=by rw[IntKind.wrap_i64];omega
 obtain⟨hi,hhi⟩:∃hi:Int,((pf+(pc-1):Nat):Int)=hi:=⟨_,rfl⟩
 rw[hhi] at HS;have s2:IntKind.i64.wrap (hi+1)=hi+1:=by rw[IntKind.wrap_i64];omega
 have hh2:hi+1=pf+pc:=by omega
 clear hhi hp hm;have hff:∀q:Bw w2,Sem.run Tryz.prog (Instr.field 259 (.agg #[.int .i64 (pf:Int),.int .i64 hi]) 1) q.to=.ok (.int .i64 hi) q.to:=fun q=>run_hi q.to _ _
 by_cases h1:ma=pa+ps
 ·have t1:((ma:Int)==(pa:Int)+ps)=true:=by rw[beq_iff_eq];omega
  by_cases h2:mf=pf+pc
  ·have t2:((mf:Int)==hi+1)=true:=by rw[beq_iff_eq];omega
   by_cases h3:pl<=me
   ·have HR:=Lib.hid (show true=r from(HF.out.2 ⟨h1,h2,h3⟩).symm)
    have t3:(pl:Int)<=(me:Int):=by omega
    clear h1 h2 h3 hh2;refine wp_region_quiet_below (by assumption) (by kernel_rfl) ?_
    repeat (first|go_big_quiet_skip|quiet_step (first|(go_at_call 194;refine below_of (HS.out _))))
    refine wpQuiet_nil ?_;intro _ hw';obtain⟨q,rfl⟩:=hw';go_wp2_with fail
    go_ret
    exact⟨by rw[<-HR.out];rfl,HB.out.trans (q.h.mono HB.out.size)⟩
   ·have HR:=Lib.hid (show false=r by rcases r with _|_;rfl;exact absurd (HF.out.1 rfl).2.2 h3)
    have t3: ¬ (pl:Int)<=(me:Int):=by omega
    clear h1 h2 h3 hh2;refine wp_region_quiet_below (by assumption) (by kernel_rfl) ?_
    repeat (first|go_big_quiet_skip|quiet_step (first|(go_at_call 194;refine below_of (HS.out _))))
    refine wpQuiet_nil ?_;intro _ hw';obtain⟨q,rfl⟩:=hw';go_wp2_with fail
    go_ret
    exact⟨by rw[<-HR.out];rfl,HB.out.trans (q.h.mono HB.out.size)⟩
  ·have t2:((mf:Int)==hi+1)=false:=by rw[beq_eq_false_iff_ne];omega
   have HR:=Lib.hid (show false=r by rcases r with _|_;rfl;exact absurd (HF.out.1 rfl).2.1 h2);clear h1 h2 hh2;refine wp_region_quiet_below (by assumption) (by kernel_rfl) ?_
   repeat (first|go_big_quiet_skip|quiet_step (first|(go_at_call 194;refine below_of (HS.out _))))
   refine wpQuiet_nil ?_;intro _ hw';obtain⟨q,rfl⟩:=hw';go_wp2_with fail
   go_ret
   exact⟨by rw[<-HR.out];rfl,HB.out.trans (q.h.mono HB.out.size)⟩
 ·have t1:((ma:Int)==(pa:Int)+ps)=false:=by rw[beq_eq_false_iff_ne];omega
  have HR:=Lib.hid (show false=r by rcases r with _|_;rfl;exact absurd (HF.out.1 rfl).1 h1);clear h1 hh2;refine wp_region_quiet_below (by assumption) (by kernel_rfl) ?_
  repeat (first|go_big_quiet_skip|quiet_step (fail))
  refine wpQuiet_nil ?_;intro _ hw';obtain⟨q,rfl⟩:=hw';go_wp2_with fail
  go_ret
  exact⟨by rw[<-HR.out];rfl,HB.out.trans (q.h.mono HB.out.size)⟩
end Sn
end Go.Proofs.YtphfmgapiimliaaGreat
