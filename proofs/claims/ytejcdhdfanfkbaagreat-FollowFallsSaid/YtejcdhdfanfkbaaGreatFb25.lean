/- block.Seqs. head.follows. head: Blocks. -/
import Derived.Test.YtejcdhdfanfkbaaGreatFb06
import Derived.Deep.QuietTactic
import Derived.BigQuiet
import Derived.Test.YtejcdhdfanfkbaaGreatFb07
import Derived.Test.YtejcdhdfanfkbaaGreatFb03
import Derived.Deep.LoopGhost
namespace Go.Proofs.YtejcdhdfanfkbaaGreat
namespace Bk
open Go.RowKit
def rg (lo hi:Int):Value:=.agg #[.int .i64 lo,.int .i64 hi]
set_option maxHeartbeats 6400000 in
set_option maxRecDepth 100000 in
theorem seqs_at (a s:Int) (raw c first early late:Nat) (w:World) (h:first+c<=1000000000) :
  Calls Tryz.prog 244 #[magg a s raw (c+1:Nat) first early late] w fun e w'=>e=.returned (rg first (first+c:Nat))/\Below w.heap.size w w':=by
 have mixed:Tryz.prog.follows .mixedOrders=true:=by kernel_rfl
 have h1: ¬ (((c+1:Nat):Int)<1):=by omega
 have h2:IntKind.i64.wrap (((c+1:Nat):Int)-1)=(c:Int):=by rw[IntKind.wrap_i64];omega
 have h3:IntKind.i64.wrap (9223372036854775807-(c:Int))=9223372036854775807-(c:Int):=by rw[IntKind.wrap_i64];omega
 have h4: ¬ (9223372036854775807-(c:Int)<(first:Int)):=by omega
 have h5:IntKind.i64.wrap ((first:Int)+(c:Int))=((first+c:Nat):Int):=by rw[IntKind.wrap_i64];omega
 have HB:=Lib.hid h;clear h;unfold magg rg;generalize ((c+1:Nat):Int)=C at *
 go_enter Tryz.func244, Tryz.ntmps244
 go_wp2_with fail
 refine bodyPost_ret (v:=.agg #[.int .i64 first,.int .i64 ((first:Int)+c)]) (by simp[results,go_sem]) rfl ?_;exact⟨by simp,(ext_alloc w _).trans ((ext_alloc _ _).mono (by simp))⟩
theorem seqs_any (raw c first early late:Nat) (w:World) (h:first+c<=1000000000) :
  Calls Tryz.prog 244 #[magg 0 0 raw (c+1:Nat) first early late] w fun e w'=>e=.returned (rg first (first+c:Nat))/\Below w.heap.size w w':=seqs_at 0 0 raw c first early late w h
theorem run_lo (w:World) (x y:Int):Sem.run Tryz.prog (Instr.field 166 (.agg #[.int .i64 x,.int .i64 y]) 0) w=.ok (.int .i64 x) w:=by
 have hu:=Tryz.underlying166;have h3:=Tryz.underlying3;simp[Instr.field,hu,h3,asAgg,part,isAgg,go_sem]
theorem run_hi (w:World) (x y:Int):Sem.run Tryz.prog (Instr.field 166 (.agg #[.int .i64 x,.int .i64 y]) 1) w=.ok (.int .i64 y) w:=by
 have hu:=Tryz.underlying166;have h3:=Tryz.underlying3;simp[Instr.field,hu,h3,asAgg,part,isAgg,go_sem]
end Bk
end Go.Proofs.YtejcdhdfanfkbaaGreat
namespace Go.Proofs.YtejcdhdfanfkbaaGreat
namespace Sn
open Go.RowKit Hd Bk
theorem seqs_mt (m:Mt) (w:World) (h:okM m=true):Calls Tryz.prog 244 #[mv m] w fun e w'=>e=.returned (rg m.f (m.f+(m.c-1):Nat))/\Below w.heap.size w w':=by
 rw[okM_iff] at h;have:=seqs_at m.a m.s m.r (m.c-1) m.f m.e m.l w (by omega);unfold mv
 rwa [show m.c-1+1=m.c by omega] at this
set_option maxHeartbeats 3200000 in
set_option maxRecDepth 100000 in
theorem follows_any (p m:Mt) (w:World) (hp:okM p=true) (hm:okM m=true) :
  Calls Tryz.prog 225 #[mv p,mv m] w fun e w'=>e=.returned (.bool (folB p m))/\Below w.heap.size w w':=by
 have mixed:Tryz.prog.follows .mixedOrders=true:=by kernel_rfl
 have HS:=Lib.hid (fun w=>seqs_mt p w hp);rw[okM_iff] at hp hm;have hfol:=folB_iff p m;have HB:=Lib.hid ((ext_alloc w (.cells #[.int .i64 p.a,.int .i64 p.s,.int .i64 p.r,.int .i64 p.c,.int .i64 p.f,.int .i64 p.e,.int .i64 p.l] 154)).trans ((ext_alloc _ (.cells #[.int .i64 m.a,.int .i64 m.s,.int .i64 m.r,.int .i64 m.c,.int .i64 m.f,.int .i64 m.e,.int .i64 m.l] 154)).mono (by simp)));have hp':(p.f+(p.c-1)+1:Nat)=p.f+p.c:=by omega
 have M1:=Lib.hid (show Mb ((w.alloc (.cells #[.int .i64 p.a,.int .i64 p.s,.int .i64 p.r,.int .i64 p.c,.int .i64 p.f,.int .i64 p.e,.int .i64 p.l] 154)).alloc (.cells #[.int .i64 m.a,.int .i64 m.s,.int .i64 m.r,.int .i64 m.c,.int .i64 m.f,.int .i64 m.e,.int .i64 m.l] 154)) w.heap.size p.a p.s p.r p.c p.f p.e p.l from
  (Below.heap_alloc _ _ _ (by simp)).trans (heap_alloc_new w _))
 have M2:=Lib.hid (show Mb ((w.alloc (.cells #[.int .i64 p.a,.int .i64 p.s,.int .i64 p.r,.int .i64 p.c,.int .i64 p.f,.int .i64 p.e,.int .i64 p.l] 154)).alloc (.cells #[.int .i64 m.a,.int .i64 m.s,.int .i64 m.r,.int .i64 m.c,.int .i64 m.f,.int .i64 m.e,.int .i64 m.l] 154)) (w.heap.size+1) m.a m.s m.r m.c m.f m.e m.l from by
  have hh:=heap_alloc_new (w.alloc (.cells #[.int .i64 p.a,.int .i64 p.s,.int .i64 p.r,.int .i64 p.c,.int .i64 p.f,.int .i64 p.e,.int .i64 p.l] 154)) (.cells #[.int .i64 m.a,.int .i64 m.s,.int .i64 m.r,.int .i64 m.c,.int .i64 m.f,.int .i64 m.e,.int .i64 m.l] 154);rw[show(w.alloc (.cells #[.int .i64 p.a,.int .i64 p.s,.int .i64 p.r,.int .i64 p.c,.int .i64 p.f,.int .i64 p.e,.int .i64 p.l] 154)).heap.size=w.heap.size+1 by simp] at hh;exact hh)
 unfold mv magg;generalize folB p m=r at *
 obtain⟨pa,ps,pr,pc,pf,pe,pl⟩:=p;obtain⟨ma,ms,mr,mc,mf,me,ml⟩:=m;unfold mv magg rg at HS;dsimp only at *
 have HF:=Lib.hid hfol;have HP:=Lib.hid hp';have HK:=Lib.hid (And.intro hp hm);clear hfol hp'
 go_enter Tryz.func225, Tryz.ntmps225
 go_wp2_with fail
 generalize (w.alloc (.cells #[.int .i64 pa,.int .i64 ps,.int .i64 pr,.int .i64 pc,.int .i64 pf,.int .i64 pe,.int .i64 pl] 154)).alloc (.cells #[.int .i64 ma,.int .i64 ms,.int .i64 mr,.int .i64 mc,.int .i64 mf,.int .i64 me,.int .i64 ml] 154)=w2 at *
 have l1:=M1.out.lt;have l2:=M2.out.lt;have a0:∀q:Bw w2,q.to.cell? ⟨w.heap.size,0,none⟩=some (.int .i64 pa):=fun q=>q.cell l1 M1.out.c0
 have a1:∀q:Bw w2,q.to.cell? ⟨w.heap.size,1,none⟩=some (.int .i64 ps):=fun q=>q.cell l1 M1.out.c1
 have a2:∀q:Bw w2,q.to.cell? ⟨w.heap.size,2,none⟩=some (.int .i64 pr):=fun q=>q.cell l1 M1.out.c2
 have a3:∀q:Bw w2,q.to.cell? ⟨w.heap.size,3,none⟩=some (.int .i64 pc):=fun q=>q.cell l1 M1.out.c3
 have a4:∀q:Bw w2,q.to.cell? ⟨w.heap.size,4,none⟩=some (.int .i64 pf):=fun q=>q.cell l1 M1.out.c4
 have a5:∀q:Bw w2,q.to.cell? ⟨w.heap.size,5,none⟩=some (.int .i64 pe):=fun q=>q.cell l1 M1.out.c5
 have a6:∀q:Bw w2,q.to.cell? ⟨w.heap.size,6,none⟩=some (.int .i64 pl):=fun q=>q.cell l1 M1.out.c6
 have b0:∀q:Bw w2,q.to.cell? ⟨w.heap.size+1,0,none⟩=some (.int .i64 ma):=fun q=>q.cell l2 M2.out.c0
 have b4:∀q:Bw w2,q.to.cell? ⟨w.heap.size+1,4,none⟩=some (.int .i64 mf):=fun q=>q.cell l2 M2.out.c4
 have b5:∀q:Bw w2,q.to.cell? ⟨w.heap.size+1,5,none⟩=some (.int .i64 me):=fun q=>q.cell l2 M2.out.c5
 have s1:IntKind.i64.wrap ((pa:Int)+(ps:Int))=(pa:Int)+ps:=by rw[IntKind.wrap_i64];omega
 obtain⟨hi,hhi⟩:∃hi:Int,((pf+(pc-1):Nat):Int)=hi:=⟨_,rfl⟩
 rw[hhi] at HS;have s2:IntKind.i64.wrap (hi+1)=hi+1:=by rw[IntKind.wrap_i64];omega
 have hh2:hi+1=pf+pc:=by omega
 clear hhi hp hm;have hff:∀q:Bw w2,Sem.run Tryz.prog (Instr.field 166 (.agg #[.int .i64 (pf:Int),.int .i64 hi]) 1) q.to=.ok (.int .i64 hi) q.to:=fun q=>run_hi q.to _ _
 by_cases h1:ma=pa+ps
 ·have t1:((ma:Int)==(pa:Int)+ps)=true:=by rw[beq_iff_eq];omega
  by_cases h2:mf=pf+pc
  ·have t2:((mf:Int)==hi+1)=true:=by rw[beq_iff_eq];omega
   by_cases h3:pl<=me
   ·have HR:=Lib.hid (show true=r from(HF.out.2 ⟨h1,h2,h3⟩).symm)
    have t3:(pl:Int)<=(me:Int):=by omega
    clear h1 h2 h3 hh2;refine wp_region_quiet_below (by assumption) (by kernel_rfl) ?_
    repeat (first|go_big_quiet_skip|quiet_step (first|(go_at_call 244;refine below_of (HS.out _))))
    refine wpQuiet_nil ?_;intro _ hw';obtain⟨q,rfl⟩:=hw';go_wp2_with fail
    go_ret
    exact⟨by rw[<-HR.out];rfl,HB.out.trans (q.h.mono HB.out.size)⟩
   ·have HR:=Lib.hid (show false=r by rcases r with _|_;rfl;exact absurd (HF.out.1 rfl).2.2 h3)
    have t3: ¬ (pl:Int)<=(me:Int):=by omega
    clear h1 h2 h3 hh2;refine wp_region_quiet_below (by assumption) (by kernel_rfl) ?_
    repeat (first|go_big_quiet_skip|quiet_step (first|(go_at_call 244;refine below_of (HS.out _))))
    refine wpQuiet_nil ?_;intro _ hw';obtain⟨q,rfl⟩:=hw';go_wp2_with fail
    go_ret
    exact⟨by rw[<-HR.out];rfl,HB.out.trans (q.h.mono HB.out.size)⟩
  ·have t2:((mf:Int)==hi+1)=false:=by rw[beq_eq_false_iff_ne];omega
   have HR:=Lib.hid (show false=r by rcases r with _|_;rfl;exact absurd (HF.out.1 rfl).2.1 h2);clear h1 h2 hh2;refine wp_region_quiet_below (by assumption) (by kernel_rfl) ?_
   repeat (first|go_big_quiet_skip|quiet_step (first|(go_at_call 244;refine below_of (HS.out _))))
   refine wpQuiet_nil ?_;intro _ hw';obtain⟨q,rfl⟩:=hw';go_wp2_with fail
   go_ret
   exact⟨by rw[<-HR.out];rfl,HB.out.trans (q.h.mono HB.out.size)⟩
 ·have t1:((ma:Int)==(pa:Int)+ps)=false:=by rw[beq_eq_false_iff_ne];omega
  have HR:=Lib.hid (show false=r by rcases r with _|_;rfl;exact absurd (HF.out.1 rfl).1 h1);clear h1 hh2;refine wp_region_quiet_below (by assumption) (by kernel_rfl) ?_
  repeat (first|go_big_quiet_skip|quiet_step (fail))
  refine wpQuiet_nil ?_;intro _ hw';obtain⟨q,rfl⟩:=hw';go_wp2_with fail
  go_ret
  exact⟨by rw[<-HR.out];rfl,HB.out.trans (q.h.mono HB.out.size)⟩
end Sn
end Go.Proofs.YtejcdhdfanfkbaaGreat
namespace Go.Proofs.YtejcdhdfanfkbaaGreat
namespace Sn
open Go.RowKit Hd Bk
def blE (l:List Mt):Int:=if okBl l=true then 0 else 211
theorem blE_yes {l:List Mt} (h:okBl l=true):blE l=0:=if_pos h
theorem blE_no {l:List Mt} (h:okBl l=false):blE l=211:=if_neg (by rw[h];simp)
def pvM (l:List Mt) (k:Nat):Option Mt:=if k=0 then none else l[k-1]?
theorem rowM_bad {l:List Mt} {k:Nat} {m:Mt} (h:l[k]? =some m) (ho:okM m=false):rowM (pvM l k) (l.drop k)=false:=by
 rw[drop_at l k m h];rcases pvM l k with _|p<;>simp[rowM,ho]
theorem rowM_off {l:List Mt} {k:Nat} {p m:Mt} (hp:l[k]? =some p) (h:l[k+1]? =some m) (ho:folB p m=false):rowM (pvM l (k+1)) (l.drop (k+1))=false:=by
 have e:pvM l (k+1)=some p:=by unfold pvM;rw[if_neg (by omega),Nat.add_sub_cancel,hp]
 rw[drop_at l (k+1) m h,e];simp[rowM,ho]
theorem rowM_on {l:List Mt} {k:Nat} {p m:Mt} (hp:l[k]? =some p) (h:l[k+1]? =some m) (h1:okM m=true) (ho:folB p m=true):rowM (pvM l (k+1)) (l.drop (k+1))=rowM (pvM l (k+2)) (l.drop (k+2)):=by
 have e:pvM l (k+1)=some p:=by unfold pvM;rw[if_neg (by omega),Nat.add_sub_cancel,hp]
 have e2:pvM l (k+2)=some m:=by unfold pvM;rw[if_neg (by omega),show k+2-1=k+1 by omega,h]
 rw[drop_at l (k+1) m h,e,e2];simp[rowM,ho,h1]
theorem rowM_on0 {l:List Mt} {m:Mt} (h:l[0]? =some m) (h1:okM m=true):rowM (pvM l 0) (l.drop 0)=rowM (pvM l 1) (l.drop 1):=by
 have e2:pvM l 1=some m:=by unfold pvM;rw[if_neg (by omega)];exact h
 rw[drop_at l 0 m h,e2];simp[pvM,rowM,h1]
theorem rowM_end {l:List Mt} {k:Nat} (h:l.length<=k):rowM (pvM l k) (l.drop k)=true:=by
 rw[List.drop_eq_nil_of_le h];rcases pvM l k with _|p<;>rfl
theorem alone_mt (m:Mt) (w:World) {b:Bool} (h:okM m=b):Calls Tryz.prog 224 #[mv m] w fun e w'=>e=.returned (.bool b)/\Below w.heap.size w w':=by
 have:=alone_any m.a m.s m.r m.c m.f m.e m.l w;subst h;exact this
theorem follows_mt (p m:Mt) (w:World) (hp:okM p=true) (hm:okM m=true) {b:Bool} (h:folB p m=b) :
  Calls Tryz.prog 225 #[mv p,mv m] w fun e w'=>e=.returned (.bool b)/\Below w.heap.size w w':=by
 subst h;exact follows_any p m w hp hm
set_option maxHeartbeats 6400000 in
set_option maxRecDepth 100000 in
theorem blocks_any (A:Option Addr) (n c:Nat) (l:List Mt) (w:World) (hrd:Rd w w.heap.size 7 A n (fl7 l)) (hn:n<=1000000) :
  Calls Tryz.prog 173 #[.slice A n c] w fun e w'=>e=.returned (.int .i64 (blE l))/\Below w.heap.size w w':=by
 have mixed:Tryz.prog.follows .mixedOrders=true:=by kernel_rfl
 have hln:=mt_len hrd;by_cases hbig:1000<n
 ·have HE:=Lib.hid (blE_no (l:=l) (by unfold okBl;rw[hln,Bool.and_eq_false_iff];left;exact decide_eq_false (by omega)))
  have hb':(1000:Int)<(n:Int):=by omega
  clear hrd hln
  go_enter Tryz.func173, Tryz.ntmps173
  go_wp2_with fail
  go_ret
  exact⟨by rw[HE.out];rfl,Below.refl _ _⟩
 ·have hb': ¬ (1000:Int)<(n:Int):=by omega
  have HOK:=Lib.hid (show ∀b,rowM none l=b->okBl l=b from fun b h=>by unfold okBl;rw[h,hln,decide_eq_true (by omega)];rfl);have HLN:=Lib.hid hln;have HR:=Lib.hid hrd;clear hrd hln hbig
  go_enter Tryz.func173, Tryz.ntmps173
  go_wp2_with fail
  go_loopw [10] (fun v wr=>∃k:Nat,v=.int .i64 k/\k<=n/\Hid (rowM (pvM l k) (l.drop k)=rowM none l/\(∀j r,j<k->l[j]? =some r->okM r=true)/\Below w.heap.size w wr)) (fun v _=>n-(intOf v).toNat)
  case atStart=>exact⟨0,by go_num,by omega,rfl,fun j r h=>absurd h (by omega),Below.refl _ _⟩
  case round =>
   obtain⟨k,rfl,hk,HX⟩:=hrel;by_cases hkn:k<n
   ·obtain⟨ad,m,hA,hbk,hx,hc0,hc1,hc2,hc3,hc4,hc5,hc6⟩:=mt_at (HR.out.below HX.out.2.2) hkn
    have hbr:(ad.add (k*7)).block<wr.heap.size:=by rw[add_block];exact Nat.lt_of_lt_of_le hbk HX.out.2.2.size
    have HBR:=Lib.hid hbr;have HBN:=Lib.hid (HX.out.2.2.trans ((ext_alloc wr (.cells #[.int .i64 m.a,.int .i64 m.s,.int .i64 m.r,.int .i64 m.c,.int .i64 m.f,.int .i64 m.e,.int .i64 m.l] 154)).mono HX.out.2.2.size));have HM0:=Lib.hid (show Mb (wr.alloc (.cells #[.int .i64 m.a,.int .i64 m.s,.int .i64 m.r,.int .i64 m.c,.int .i64 m.f,.int .i64 m.e,.int .i64 m.l] 154)) wr.heap.size m.a m.s m.r m.c m.f m.e m.l from heap_alloc_new wr _);have HSZ:=Lib.hid HX.out.2.2.size;clear hbr;by_cases ho:okM m=true
    ·have HA:=Lib.hid (fun w=>alone_mt m w ho)
     by_cases hk0:k=0
     ·have HN:=Lib.hid (show rowM (pvM l (k+1)) (l.drop (k+1))=rowM none l/\ ∀j r,j<k+1->l[j]? =some r->okM r=true from by
       subst hk0;refine⟨(rowM_on0 hx ho).symm.trans HX.out.1,fun j r hj hr=>?_⟩;obtain rfl:j=0:=by omega
       rw[hx] at hr;cases hr;exact ho)
      have hk1:decide (0<k)=false:=decide_eq_false (by omega);obtain⟨ma,ms,mr,mc,mf,me,ml⟩:=m;unfold mv magg at HA;dsimp only at *
      subst hA;clear ho hx HX hbk hk0;go_wp2_with fail
      generalize wr.alloc (.cells #[.int .i64 (ma:Int),.int .i64 (ms:Int),.int .i64 (mr:Int),.int .i64 (mc:Int),.int .i64 (mf:Int),.int .i64 (me:Int),.int .i64 (ml:Int)] 154)=w2 at *
      have l2:=HM0.out.lt;have b0:∀q:Bw w2,q.to.cell? ⟨wr.heap.size,0,none⟩=some (.int .i64 ma):=fun q=>q.cell l2 HM0.out.c0
      have b1:∀q:Bw w2,q.to.cell? ⟨wr.heap.size,1,none⟩=some (.int .i64 ms):=fun q=>q.cell l2 HM0.out.c1
      have b2:∀q:Bw w2,q.to.cell? ⟨wr.heap.size,2,none⟩=some (.int .i64 mr):=fun q=>q.cell l2 HM0.out.c2
      have b3:∀q:Bw w2,q.to.cell? ⟨wr.heap.size,3,none⟩=some (.int .i64 mc):=fun q=>q.cell l2 HM0.out.c3
      have b4:∀q:Bw w2,q.to.cell? ⟨wr.heap.size,4,none⟩=some (.int .i64 mf):=fun q=>q.cell l2 HM0.out.c4
      have b5:∀q:Bw w2,q.to.cell? ⟨wr.heap.size,5,none⟩=some (.int .i64 me):=fun q=>q.cell l2 HM0.out.c5
      have b6:∀q:Bw w2,q.to.cell? ⟨wr.heap.size,6,none⟩=some (.int .i64 ml):=fun q=>q.cell l2 HM0.out.c6
      refine wp_region_quiet_below (by assumption) (by kernel_rfl) ?_
      repeat (first|go_big_quiet_skip|quiet_step (first|(go_at_call 224;refine below_of (HA.out _))))
      refine wpQuiet_nil ?_;intro _ hw';obtain⟨q,rfl⟩:=hw';go_wp2_with fail
      go_roundw
      case rel=>exact⟨k+1,by go_num,by omega,HN.out.1,HN.out.2,HBN.out.trans (q.h.mono HBN.out.size)⟩
      case measure=>simp[intOf];omega
     ·obtain⟨j,hj⟩:∃j,k=j+1:=⟨k-1,by omega⟩
      have hX:Rd w w.heap.size 7 A n (fl7 l):=HR.out;obtain⟨ad',p,hA',hbk',hxp,pc0,pc1,pc2,pc3,pc4,pc5,pc6⟩:=mt_at (k:=j) (hX.below HX.out.2.2) (by omega);obtain rfl:ad=ad':=Option.some.inj (hA.symm.trans hA');have hop:okM p=true:=HX.out.2.1 j p (by omega) hxp;have PB:=Lib.hid (show(ad.add (j*7)).block<(wr.alloc (.cells #[.int .i64 m.a,.int .i64 m.s,.int .i64 m.r,.int .i64 m.c,.int .i64 m.f,.int .i64 m.e,.int .i64 m.l] 154)).heap.size from by rw[add_block];have:=HSZ.out;simp;omega);have hlt:(ad.add (j*7)).block<wr.heap.size:=by rw[add_block];exact Nat.lt_of_lt_of_le hbk HSZ.out
      have PC:=Lib.hid (And.intro ((World.cell?_alloc_lt wr (.cells #[.int .i64 m.a,.int .i64 m.s,.int .i64 m.r,.int .i64 m.c,.int .i64 m.f,.int .i64 m.e,.int .i64 m.l] 154) _ hlt).trans pc0) (And.intro ((World.cell?_alloc_lt wr (.cells #[.int .i64 m.a,.int .i64 m.s,.int .i64 m.r,.int .i64 m.c,.int .i64 m.f,.int .i64 m.e,.int .i64 m.l] 154) ⟨(ad.add (j*7)).block,(ad.add (j*7)).off+1,none⟩ hlt).trans pc1)
       (And.intro ((World.cell?_alloc_lt wr (.cells #[.int .i64 m.a,.int .i64 m.s,.int .i64 m.r,.int .i64 m.c,.int .i64 m.f,.int .i64 m.e,.int .i64 m.l] 154) ⟨(ad.add (j*7)).block,(ad.add (j*7)).off+2,none⟩ hlt).trans pc2) (And.intro ((World.cell?_alloc_lt wr (.cells #[.int .i64 m.a,.int .i64 m.s,.int .i64 m.r,.int .i64 m.c,.int .i64 m.f,.int .i64 m.e,.int .i64 m.l] 154) ⟨(ad.add (j*7)).block,(ad.add (j*7)).off+3,none⟩ hlt).trans pc3)
       (And.intro ((World.cell?_alloc_lt wr (.cells #[.int .i64 m.a,.int .i64 m.s,.int .i64 m.r,.int .i64 m.c,.int .i64 m.f,.int .i64 m.e,.int .i64 m.l] 154) ⟨(ad.add (j*7)).block,(ad.add (j*7)).off+4,none⟩ hlt).trans pc4) (And.intro ((World.cell?_alloc_lt wr (.cells #[.int .i64 m.a,.int .i64 m.s,.int .i64 m.r,.int .i64 m.c,.int .i64 m.f,.int .i64 m.e,.int .i64 m.l] 154) ⟨(ad.add (j*7)).block,(ad.add (j*7)).off+5,none⟩ hlt).trans pc5)
        ((World.cell?_alloc_lt wr (.cells #[.int .i64 m.a,.int .i64 m.s,.int .i64 m.r,.int .i64 m.c,.int .i64 m.f,.int .i64 m.e,.int .i64 m.l] 154) ⟨(ad.add (j*7)).block,(ad.add (j*7)).off+6,none⟩ hlt).trans pc6)))))))
      have hk1:decide (0<k)=true:=decide_eq_true (by omega);have w1:IntKind.i64.wrap ((k:Int)-1)=(j:Int):=by rw[IntKind.wrap_i64];omega
      have hjn:(j:Int)<(n:Int):=by omega
      by_cases hf:folB p m=true
      ·have HFO:=Lib.hid (fun w=>follows_mt p m w hop ho hf)
       have HN:=Lib.hid (show rowM (pvM l (k+1)) (l.drop (k+1))=rowM none l/\ ∀j r,j<k+1->l[j]? =some r->okM r=true from by
        subst hj;refine⟨(rowM_on hxp hx ho hf).symm.trans HX.out.1,fun i r hi hr=>?_⟩;rcases Nat.lt_or_ge i (j+1) with h|h
        ·exact HX.out.2.1 i r h hr
        ·obtain rfl:i=j+1:=by omega
         rw[hx] at hr;cases hr;exact ho)
       obtain⟨ma,ms,mr,mc,mf,me,ml⟩:=m;obtain⟨pa,ps,pr,pc,pf,pe,pl⟩:=p;unfold mv magg at HA HFO;dsimp only at *
       subst hA;clear ho hx HX hbk hk0 hj hX hA' hbk' hxp pc0 pc1 pc2 pc3 pc4 pc5 pc6 hop hlt hf;go_wp2_with fail
       generalize wr.alloc (.cells #[.int .i64 (ma:Int),.int .i64 (ms:Int),.int .i64 (mr:Int),.int .i64 (mc:Int),.int .i64 (mf:Int),.int .i64 (me:Int),.int .i64 (ml:Int)] 154)=w2 at *
       have l2:=HM0.out.lt;have b0:∀q:Bw w2,q.to.cell? ⟨wr.heap.size,0,none⟩=some (.int .i64 ma):=fun q=>q.cell l2 HM0.out.c0
       have b1:∀q:Bw w2,q.to.cell? ⟨wr.heap.size,1,none⟩=some (.int .i64 ms):=fun q=>q.cell l2 HM0.out.c1
       have b2:∀q:Bw w2,q.to.cell? ⟨wr.heap.size,2,none⟩=some (.int .i64 mr):=fun q=>q.cell l2 HM0.out.c2
       have b3:∀q:Bw w2,q.to.cell? ⟨wr.heap.size,3,none⟩=some (.int .i64 mc):=fun q=>q.cell l2 HM0.out.c3
       have b4:∀q:Bw w2,q.to.cell? ⟨wr.heap.size,4,none⟩=some (.int .i64 mf):=fun q=>q.cell l2 HM0.out.c4
       have b5:∀q:Bw w2,q.to.cell? ⟨wr.heap.size,5,none⟩=some (.int .i64 me):=fun q=>q.cell l2 HM0.out.c5
       have b6:∀q:Bw w2,q.to.cell? ⟨wr.heap.size,6,none⟩=some (.int .i64 ml):=fun q=>q.cell l2 HM0.out.c6
       have p0:∀q:Bw w2,q.to.cell? (ad.add (j*7))=some (.int .i64 pa):=fun q=>q.cellAt PB.out PC.out.1
       have p1:∀q:Bw w2,q.to.cell? ⟨(ad.add (j*7)).block,(ad.add (j*7)).off+1,none⟩=some (.int .i64 ps):=fun q=>q.cellAt PB.out PC.out.2.1
       have p2:∀q:Bw w2,q.to.cell? ⟨(ad.add (j*7)).block,(ad.add (j*7)).off+2,none⟩=some (.int .i64 pr):=fun q=>q.cellAt PB.out PC.out.2.2.1
       have p3:∀q:Bw w2,q.to.cell? ⟨(ad.add (j*7)).block,(ad.add (j*7)).off+3,none⟩=some (.int .i64 pc):=fun q=>q.cellAt PB.out PC.out.2.2.2.1
       have p4:∀q:Bw w2,q.to.cell? ⟨(ad.add (j*7)).block,(ad.add (j*7)).off+4,none⟩=some (.int .i64 pf):=fun q=>q.cellAt PB.out PC.out.2.2.2.2.1
       have p5:∀q:Bw w2,q.to.cell? ⟨(ad.add (j*7)).block,(ad.add (j*7)).off+5,none⟩=some (.int .i64 pe):=fun q=>q.cellAt PB.out PC.out.2.2.2.2.2.1
       have p6:∀q:Bw w2,q.to.cell? ⟨(ad.add (j*7)).block,(ad.add (j*7)).off+6,none⟩=some (.int .i64 pl):=fun q=>q.cellAt PB.out PC.out.2.2.2.2.2.2
       refine wp_region_quiet_below (by assumption) (by kernel_rfl) ?_
       repeat (first|go_big_quiet_skip|quiet_step (first|(go_at_call 224;refine below_of (HA.out _))|(go_at_call 225;refine below_of (HFO.out _))))
       refine wpQuiet_nil ?_;intro _ hw';obtain⟨q,rfl⟩:=hw';go_wp2_with fail
       go_roundw
       case rel=>exact⟨k+1,by go_num,by omega,HN.out.1,HN.out.2,HBN.out.trans (q.h.mono HBN.out.size)⟩
       case measure=>simp[intOf];omega
      ·have hf':folB p m=false:=by simpa using hf
       have HFO:=Lib.hid (fun w=>follows_mt p m w hop ho hf');have HE:=Lib.hid (blE_no (HOK.out false (by
        subst hj;rw[<-HX.out.1];exact rowM_off hxp hx hf')))
       obtain⟨ma,ms,mr,mc,mf,me,ml⟩:=m;obtain⟨pa,ps,pr,pc,pf,pe,pl⟩:=p;unfold mv magg at HA HFO;dsimp only at *
       subst hA;clear ho hx HX hbk hk0 hj hX hA' hbk' hxp pc0 pc1 pc2 pc3 pc4 pc5 pc6 hop hlt hf hf';go_wp2_with fail
       generalize wr.alloc (.cells #[.int .i64 (ma:Int),.int .i64 (ms:Int),.int .i64 (mr:Int),.int .i64 (mc:Int),.int .i64 (mf:Int),.int .i64 (me:Int),.int .i64 (ml:Int)] 154)=w2 at *
       have l2:=HM0.out.lt;have b0:∀q:Bw w2,q.to.cell? ⟨wr.heap.size,0,none⟩=some (.int .i64 ma):=fun q=>q.cell l2 HM0.out.c0
       have b1:∀q:Bw w2,q.to.cell? ⟨wr.heap.size,1,none⟩=some (.int .i64 ms):=fun q=>q.cell l2 HM0.out.c1
       have b2:∀q:Bw w2,q.to.cell? ⟨wr.heap.size,2,none⟩=some (.int .i64 mr):=fun q=>q.cell l2 HM0.out.c2
       have b3:∀q:Bw w2,q.to.cell? ⟨wr.heap.size,3,none⟩=some (.int .i64 mc):=fun q=>q.cell l2 HM0.out.c3
       have b4:∀q:Bw w2,q.to.cell? ⟨wr.heap.size,4,none⟩=some (.int .i64 mf):=fun q=>q.cell l2 HM0.out.c4
       have b5:∀q:Bw w2,q.to.cell? ⟨wr.heap.size,5,none⟩=some (.int .i64 me):=fun q=>q.cell l2 HM0.out.c5
       have b6:∀q:Bw w2,q.to.cell? ⟨wr.heap.size,6,none⟩=some (.int .i64 ml):=fun q=>q.cell l2 HM0.out.c6
       have p0:∀q:Bw w2,q.to.cell? (ad.add (j*7))=some (.int .i64 pa):=fun q=>q.cellAt PB.out PC.out.1
       have p1:∀q:Bw w2,q.to.cell? ⟨(ad.add (j*7)).block,(ad.add (j*7)).off+1,none⟩=some (.int .i64 ps):=fun q=>q.cellAt PB.out PC.out.2.1
       have p2:∀q:Bw w2,q.to.cell? ⟨(ad.add (j*7)).block,(ad.add (j*7)).off+2,none⟩=some (.int .i64 pr):=fun q=>q.cellAt PB.out PC.out.2.2.1
       have p3:∀q:Bw w2,q.to.cell? ⟨(ad.add (j*7)).block,(ad.add (j*7)).off+3,none⟩=some (.int .i64 pc):=fun q=>q.cellAt PB.out PC.out.2.2.2.1
       have p4:∀q:Bw w2,q.to.cell? ⟨(ad.add (j*7)).block,(ad.add (j*7)).off+4,none⟩=some (.int .i64 pf):=fun q=>q.cellAt PB.out PC.out.2.2.2.2.1
       have p5:∀q:Bw w2,q.to.cell? ⟨(ad.add (j*7)).block,(ad.add (j*7)).off+5,none⟩=some (.int .i64 pe):=fun q=>q.cellAt PB.out PC.out.2.2.2.2.2.1
       have p6:∀q:Bw w2,q.to.cell? ⟨(ad.add (j*7)).block,(ad.add (j*7)).off+6,none⟩=some (.int .i64 pl):=fun q=>q.cellAt PB.out PC.out.2.2.2.2.2.2
       refine wp_region_quiet_below (by assumption) (by kernel_rfl) ?_
       repeat (first|go_big_quiet_skip|quiet_step (first|(go_at_call 224;refine below_of (HA.out _))|(go_at_call 225;refine below_of (HFO.out _))))
       refine wpQuiet_nil ?_;intro _ hw';obtain⟨q,rfl⟩:=hw';go_wp2_with fail
       go_ret
       exact⟨by rw[HE.out];rfl,HBN.out.trans (q.h.mono HBN.out.size)⟩
    ·have ho':okM m=false:=by simpa using ho
     have HA:=Lib.hid (fun w=>alone_mt m w ho');have HE:=Lib.hid (blE_no (HOK.out false (by rw[<-HX.out.1];exact rowM_bad hx ho')));obtain⟨ma,ms,mr,mc,mf,me,ml⟩:=m;unfold mv magg at HA;dsimp only at *
     subst hA;clear ho ho' hx HX hbk;go_wp2_with fail
     generalize wr.alloc (.cells #[.int .i64 (ma:Int),.int .i64 (ms:Int),.int .i64 (mr:Int),.int .i64 (mc:Int),.int .i64 (mf:Int),.int .i64 (me:Int),.int .i64 (ml:Int)] 154)=w2 at *
     have l2:=HM0.out.lt;have b0:∀q:Bw w2,q.to.cell? ⟨wr.heap.size,0,none⟩=some (.int .i64 ma):=fun q=>q.cell l2 HM0.out.c0
     have b1:∀q:Bw w2,q.to.cell? ⟨wr.heap.size,1,none⟩=some (.int .i64 ms):=fun q=>q.cell l2 HM0.out.c1
     have b2:∀q:Bw w2,q.to.cell? ⟨wr.heap.size,2,none⟩=some (.int .i64 mr):=fun q=>q.cell l2 HM0.out.c2
     have b3:∀q:Bw w2,q.to.cell? ⟨wr.heap.size,3,none⟩=some (.int .i64 mc):=fun q=>q.cell l2 HM0.out.c3
     have b4:∀q:Bw w2,q.to.cell? ⟨wr.heap.size,4,none⟩=some (.int .i64 mf):=fun q=>q.cell l2 HM0.out.c4
     have b5:∀q:Bw w2,q.to.cell? ⟨wr.heap.size,5,none⟩=some (.int .i64 me):=fun q=>q.cell l2 HM0.out.c5
     have b6:∀q:Bw w2,q.to.cell? ⟨wr.heap.size,6,none⟩=some (.int .i64 ml):=fun q=>q.cell l2 HM0.out.c6
     refine wp_region_quiet_below (by assumption) (by kernel_rfl) ?_
     repeat (first|go_big_quiet_skip|quiet_step (first|(go_at_call 224;refine below_of (HA.out _))))
     refine wpQuiet_nil ?_;intro _ hw';obtain⟨q,rfl⟩:=hw';go_wp2_with fail
     go_ret
     exact⟨by rw[HE.out];rfl,HBN.out.trans (q.h.mono HBN.out.size)⟩
   ·obtain rfl:k=n:=by omega
    have HE:=Lib.hid (blE_yes (HOK.out true (by rw[<-HX.out.1];exact rowM_end (by rw[HLN.out];omega))));have HB:=Lib.hid HX.out.2.2;clear HX;go_wp2_with fail
    go_ret
    exact⟨by rw[HE.out];rfl,HB.out⟩
end Sn
end Go.Proofs.YtejcdhdfanfkbaaGreat
