/- head: Blocks. -/
import Derived.Test.YtphfmgapiimliaaGreatSc14
import Derived.Test.YtphfmgapiimliaaGreatSc02
import Derived.Deep.LoopGhost
namespace Go.Proofs.YtphfmgapiimliaaGreat
namespace Sn
open Go.RowKit Hd Bk
def blE (l:List Mt):Int:=if okBl l=true then 0 else 211
theorem blE_yes {l:List Mt} (h:okBl l=true):blE l=0:=if_pos h
theorem blE_no {l:List Mt} (h:okBl l=false):blE l=211:=if_neg (by rw[h];simp)
def pvM (l:List Mt) (k:Nat):Option Mt:=if k=0 then none else l[k-1]?
theorem rowM_bad {l:List Mt} {k:Nat} {m:Mt} (h:l[k]? =some m) (ho:okM m=false):rowM (pvM l k) (l.drop k)=false:=by
 rw[drop_at l k m h];rcases pvM l k with _|p<;>simp[rowM,ho]
theorem rowM_off {l:List Mt} {k:Nat} {p m:Mt} (hp:l[k]? =some p) (h:l[k+1]? =some m) (ho:folB p m=false):rowM (pvM l (k+1)) (l.drop (k+1))=false:=by
 have e:pvM l (k+1)=some p:=by unfold pvM;rw[if_neg (by omega),Nat.add_sub_cancel,hp]
 rw[drop_at l (k+1) m h,e];simp[rowM,ho]
theorem rowM_on {l:List Mt} {k:Nat} {p m:Mt} (hp:l[k]? =some p) (h:l[k+1]? =some m) (h1:okM m=true) (ho:folB p m=true):rowM (pvM l (k+1)) (l.drop (k+1))=rowM (pvM l (k+2)) (l.drop (k+2)):=by
 have e:pvM l (k+1)=some p:=by unfold pvM;rw[if_neg (by omega),Nat.add_sub_cancel,hp]
 have e2:pvM l (k+2)=some m:=by unfold pvM;rw[if_neg (by omega),show k+2-1=k+1 by omega,h]
 rw[drop_at l (k+1) m h,e,e2];simp[rowM,ho,h1]
theorem rowM_on0 {l:List Mt} {m:Mt} (h:l[0]? =some m) (h1:okM m=true):rowM (pvM l 0) (l.drop 0)=rowM (pvM l 1) (l.drop 1):=by
 have e2:pvM l 1=some m:=by unfold pvM;rw[if_neg (by omega)];exact h
 rw[drop_at l 0 m h,e2];simp[pvM,rowM,h1]
theorem rowM_end {l:List Mt} {k:Nat} (h:l.length<=k):rowM (pvM l k) (l.drop k)=true:=by
 rw[List.drop_eq_nil_of_le h];rcases pvM l k with _|p<;>rfl
theorem alone_mt (m:Mt) (w:World) {b:Bool} (h:okM m=b):Calls Tryz.prog 148 #[mv m] w fun e w'=>e=.returned (.bool b)/\Below w.heap.size w w':=by
 have:=alone_any m.a m.s m.r m.c m.f m.e m.l w;subst h;exact this
theorem follows_mt (p m:Mt) (w:World) (hp:okM p=true) (hm:okM m=true) {b:Bool} (h:folB p m=b) :
  Calls Tryz.prog 149 #[mv p,mv m] w fun e w'=>e=.returned (.bool b)/\Below w.heap.size w w':=by
 subst h;exact follows_any p m w hp hm
set_option maxHeartbeats 6400000 in
set_option maxRecDepth 100000 in
theorem blocks_any (A:Option Addr) (n c:Nat) (l:List Mt) (w:World) (hrd:Rd w w.heap.size 7 A n (fl7 l)) (hn:n<=1000000) :
  Calls Tryz.prog 103 #[.slice A n c] w fun e w'=>e=.returned (.int .i64 (blE l))/\Below w.heap.size w w':=by
 have mixed:Tryz.prog.follows .mixedOrders=true:=by kernel_rfl
 have hln:=mt_len hrd;by_cases hbig:1000<n
 ·have HE:=Lib.hid (blE_no (l:=l) (by unfold okBl;rw[hln,Bool.and_eq_false_iff];left;exact decide_eq_false (by omega)))
  have hb':(1000:Int)<(n:Int):=by omega
  clear hrd hln
  go_enter Tryz.func103, Tryz.ntmps103
  go_wp2_with fail
  go_ret
  exact⟨by rw[HE.out];rfl,Below.refl _ _⟩
 ·have hb': ¬ (1000:Int)<(n:Int):=by omega
  have HOK:=Lib.hid (show ∀b,rowM none l=b->okBl l=b from fun b h=>by unfold okBl;rw[h,hln,decide_eq_true (by omega)];rfl);have HLN:=Lib.hid hln;have HR:=Lib.hid hrd;clear hrd hln hbig
  go_enter Tryz.func103, Tryz.ntmps103
  go_wp2_with fail
  go_loopw [10] (fun v wr=>∃k:Nat,v=.int .i64 k/\k<=n/\Hid (rowM (pvM l k) (l.drop k)=rowM none l/\(∀j r,j<k->l[j]? =some r->okM r=true)/\Below w.heap.size w wr)) (fun v _=>n-(intOf v).toNat)
  case atStart=>exact⟨0,by go_num,by omega,rfl,fun j r h=>absurd h (by omega),Below.refl _ _⟩
  case round =>
   obtain⟨k,rfl,hk,HX⟩:=hrel;by_cases hkn:k<n
   ·obtain⟨ad,m,hA,hbk,hx,hc0,hc1,hc2,hc3,hc4,hc5,hc6⟩:=mt_at (HR.out.below HX.out.2.2) hkn
    have hbr:(ad.add (k*7)).block<wr.heap.size:=by rw[add_block];exact Nat.lt_of_lt_of_le hbk HX.out.2.2.size
    have HBR:=Lib.hid hbr;have HBN:=Lib.hid (HX.out.2.2.trans ((ext_alloc wr (.cells #[.int .i64 m.a,.int .i64 m.s,.int .i64 m.r,.int .i64 m.c,.int .i64 m.f,.int .i64 m.e,.int .i64 m.l] 66)).mono HX.out.2.2.size));have HM0:=Lib.hid (show Mb (wr.alloc (.cells #[.int .i64 m.a,.int .i64 m.s,.int .i64 m.r,.int .i64 m.c,.int .i64 m.f,.int .i64 m.e,.int .i64 m.l] 66)) wr.heap.size m.a m.s m.r m.c m.f m.e m.l from heap_alloc_new wr _);have HSZ:=Lib.hid HX.out.2.2.size;clear hbr;by_cases ho:okM m=true
    ·have HA:=Lib.hid (fun w=>alone_mt m w ho)
     by_cases hk0:k=0
     ·have HN:=Lib.hid (show rowM (pvM l (k+1)) (l.drop (k+1))=rowM none l/\ ∀j r,j<k+1->l[j]? =some r->okM r=true from by
       subst hk0;refine⟨(rowM_on0 hx ho).symm.trans HX.out.1,fun j r hj hr=>?_⟩;obtain rfl:j=0:=by omega
       rw[hx] at hr;cases hr;exact ho)
      have hk1:decide (0<k)=false:=decide_eq_false (by omega);obtain⟨ma,ms,mr,mc,mf,me,ml⟩:=m;unfold mv magg at HA;dsimp only at *
      subst hA;clear ho hx HX hbk hk0;go_wp2_with fail
      generalize wr.alloc (.cells #[.int .i64 (ma:Int),.int .i64 (ms:Int),.int .i64 (mr:Int),.int .i64 (mc:Int),.int .i64 (mf:Int),.int .i64 (me:Int),.int .i64 (ml:Int)] 66)=w2 at *
      have l2:=HM0.out.lt;have b0:∀q:Bw w2,q.to.cell? ⟨wr.heap.size,0,none⟩=some (.int .i64 ma):=fun q=>q.cell l2 HM0.out.c0
      have b1:∀q:Bw w2,q.to.cell? ⟨wr.heap.size,1,none⟩=some (.int .i64 ms):=fun q=>q.cell l2 HM0.out.c1
      have b2:∀q:Bw w2,q.to.cell? ⟨wr.heap.size,2,none⟩=some (.int .i64 mr):=fun q=>q.cell l2 HM0.out.c2
      have b3:∀q:Bw w2,q.to.cell? ⟨wr.heap.size,3,none⟩=some (.int .i64 mc):=fun q=>q.cell l2 HM0.out.c3
      have b4:∀q:Bw w2,q.to.cell? ⟨wr.heap.size,4,none⟩=some (.int .i64 mf):=fun q=>q.cell l2 HM0.out.c4
      have b5:∀q:Bw w2,q.to.cell? ⟨wr.heap.size,5,none⟩=some (.int .i64 me):=fun q=>q.cell l2 HM0.out.c5
      have b6:∀q:Bw w2,q.to.cell? ⟨wr.heap.size,6,none⟩=some (.int .i64 ml):=fun q=>q.cell l2 HM0.out.c6
      refine wp_region_quiet_below (by assumption) (by kernel_rfl) ?_
      repeat (first|go_big_quiet_skip|quiet_step (first|(go_at_call 148;refine below_of (HA.out _))))
      refine wpQuiet_nil ?_;intro _ hw';obtain⟨q,rfl⟩:=hw';go_wp2_with fail
      go_roundw
      case rel=>exact⟨k+1,by go_num,by omega,HN.out.1,HN.out.2,HBN.out.trans (q.h.mono HBN.out.size)⟩
      case measure=>simp[intOf];omega
     ·obtain⟨j,hj⟩:∃j,k=j+1:=⟨k-1,by omega⟩
      have hX:Rd w w.heap.size 7 A n (fl7 l):=HR.out;obtain⟨ad',p,hA',hbk',hxp,pc0,pc1,pc2,pc3,pc4,pc5,pc6⟩:=mt_at (k:=j) (hX.below HX.out.2.2) (by omega);obtain rfl:ad=ad':=Option.some.inj (hA.symm.trans hA');have hop:okM p=true:=HX.out.2.1 j p (by omega) hxp;have PB:=Lib.hid (show(ad.add (j*7)).block<(wr.alloc (.cells #[.int .i64 m.a,.int .i64 m.s,.int .i64 m.r,.int .i64 m.c,.int .i64 m.f,.int .i64 m.e,.int .i64 m.l] 66)).heap.size from by rw[add_block];have:=HSZ.out;simp;omega);have hlt:(ad.add (j*7)).block<wr.heap.size:=by rw[add_block];exact Nat.lt_of_lt_of_le hbk HSZ.out
      have PC:=Lib.hid (And.intro ((World.cell?_alloc_lt wr (.cells #[.int .i64 m.a,.int .i64 m.s,.int .i64 m.r,.int .i64 m.c,.int .i64 m.f,.int .i64 m.e,.int .i64 m.l] 66) _ hlt).trans pc0) (And.intro ((World.cell?_alloc_lt wr (.cells #[.int .i64 m.a,.int .i64 m.s,.int .i64 m.r,.int .i64 m.c,.int .i64 m.f,.int .i64 m.e,.int .i64 m.l] 66) ⟨(ad.add (j*7)).block,(ad.add (j*7)).off+1,none⟩ hlt).trans pc1)
       (And.intro ((World.cell?_alloc_lt wr (.cells #[.int .i64 m.a,.int .i64 m.s,.int .i64 m.r,.int .i64 m.c,.int .i64 m.f,.int .i64 m.e,.int .i64 m.l] 66) ⟨(ad.add (j*7)).block,(ad.add (j*7)).off+2,none⟩ hlt).trans pc2) (And.intro ((World.cell?_alloc_lt wr (.cells #[.int .i64 m.a,.int .i64 m.s,.int .i64 m.r,.int .i64 m.c,.int .i64 m.f,.int .i64 m.e,.int .i64 m.l] 66) ⟨(ad.add (j*7)).block,(ad.add (j*7)).off+3,none⟩ hlt).trans pc3)
       (And.intro ((World.cell?_alloc_lt wr (.cells #[.int .i64 m.a,.int .i64 m.s,.int .i64 m.r,.int .i64 m.c,.int .i64 m.f,.int .i64 m.e,.int .i64 m.l] 66) ⟨(ad.add (j*7)).block,(ad.add (j*7)).off+4,none⟩ hlt).trans pc4) (And.intro ((World.cell?_alloc_lt wr (.cells #[.int .i64 m.a,.int .i64 m.s,.int .i64 m.r,.int .i64 m.c,.int .i64 m.f,.int .i64 m.e,.int .i64 m.l] 66) ⟨(ad.add (j*7)).block,(ad.add (j*7)).off+5,none⟩ hlt).trans pc5)
        ((World.cell?_alloc_lt wr (.cells #[.int .i64 m.a,.int .i64 m.s,.int .i64 m.r,.int .i64 m.c,.int .i64 m.f,.int .i64 m.e,.int .i64 m.l] 66) ⟨(ad.add (j*7)).block,(ad.add (j*7)).off+6,none⟩ hlt).trans pc6)))))))
      have hk1:decide (0<k)=true:=decide_eq_true (by omega);have w1:IntKind.i64.wrap ((k:Int)-1)=(j:Int):=by rw[IntKind.wrap_i64];omega
      have hjn:(j:Int)<(n:Int):=by omega
      by_cases hf:folB p m=true
      ·have HFO:=Lib.hid (fun w=>follows_mt p m w hop ho hf)
       have HN:=Lib.hid (show rowM (pvM l (k+1)) (l.drop (k+1))=rowM none l/\ ∀j r,j<k+1->l[j]? =some r->okM r=true from by
        subst hj;refine⟨(rowM_on hxp hx ho hf).symm.trans HX.out.1,fun i r hi hr=>?_⟩;rcases Nat.lt_or_ge i (j+1) with h|h
        ·exact HX.out.2.1 i r h hr
        ·obtain rfl:i=j+1:=by omega
         rw[hx] at hr;cases hr;exact ho)
       obtain⟨ma,ms,mr,mc,mf,me,ml⟩:=m;obtain⟨pa,ps,pr,pc,pf,pe,pl⟩:=p;unfold mv magg at HA HFO;dsimp only at *
       subst hA;clear ho hx HX hbk hk0 hj hX hA' hbk' hxp pc0 pc1 pc2 pc3 pc4 pc5 pc6 hop hlt hf;go_wp2_with fail
       generalize wr.alloc (.cells #[.int .i64 (ma:Int),.int .i64 (ms:Int),.int .i64 (mr:Int),.int .i64 (mc:Int),.int .i64 (mf:Int),.int .i64 (me:Int),.int .i64 (ml:Int)] 66)=w2 at *
       have l2:=HM0.out.lt;have b0:∀q:Bw w2,q.to.cell? ⟨wr.heap.size,0,none⟩=some (.int .i64 ma):=fun q=>q.cell l2 HM0.out.c0
       have b1:∀q:Bw w2,q.to.cell? ⟨wr.heap.size,1,none⟩=some (.int .i64 ms):=fun q=>q.cell l2 HM0.out.c1
       have b2:∀q:Bw w2,q.to.cell? ⟨wr.heap.size,2,none⟩=some (.int .i64 mr):=fun q=>q.cell l2 HM0.out.c2
       have b3:∀q:Bw w2,q.to.cell? ⟨wr.heap.size,3,none⟩=some (.int .i64 mc):=fun q=>q.cell l2 HM0.out.c3
       have b4:∀q:Bw w2,q.to.cell? ⟨wr.heap.size,4,none⟩=some (.int .i64 mf):=fun q=>q.cell l2 HM0.out.c4
       have b5:∀q:Bw w2,q.to.cell? ⟨wr.heap.size,5,none⟩=some (.int .i64 me):=fun q=>q.cell l2 HM0.out.c5
       have b6:∀q:Bw w2,q.to.cell? ⟨wr.heap.size,6,none⟩=some (.int .i64 ml):=fun q=>q.cell l2 HM0.out.c6
       have p0:∀q:Bw w2,q.to.cell? (ad.add (j*7))=some (.int .i64 pa):=fun q=>q.cellAt PB.out PC.out.1
       have p1:∀q:Bw w2,q.to.cell? ⟨(ad.add (j*7)).block,(ad.add (j*7)).off+1,none⟩=some (.int .i64 ps):=fun q=>q.cellAt PB.out PC.out.2.1
       have p2:∀q:Bw w2,q.to.cell? ⟨(ad.add (j*7)).block,(ad.add (j*7)).off+2,none⟩=some (.int .i64 pr):=fun q=>q.cellAt PB.out PC.out.2.2.1
       have p3:∀q:Bw w2,q.to.cell? ⟨(ad.add (j*7)).block,(ad.add (j*7)).off+3,none⟩=some (.int .i64 pc):=fun q=>q.cellAt PB.out PC.out.2.2.2.1
       have p4:∀q:Bw w2,q.to.cell? ⟨(ad.add (j*7)).block,(ad.add (j*7)).off+4,none⟩=some (.int .i64 pf):=fun q=>q.cellAt PB.out PC.out.2.2.2.2.1
       have p5:∀q:Bw w2,q.to.cell? ⟨(ad.add (j*7)).block,(ad.add (j*7)).off+5,none⟩=some (.int .i64 pe):=fun q=>q.cellAt PB.out PC.out.2.2.2.2.2.1
       have p6:∀q:Bw w2,q.to.cell? ⟨(ad.add (j*7)).block,(ad.add (j*7)).off+6,none⟩=some (.int .i64 pl):=fun q=>q.cellAt PB.out PC.out.2.2.2.2.2.2
       refine wp_region_quiet_below (by assumption) (by kernel_rfl) ?_
       repeat (first|go_big_quiet_skip|quiet_step (first|(go_at_call 148;refine below_of (HA.out _))|(go_at_call 149;refine below_of (HFO.out _))))
       refine wpQuiet_nil ?_;intro _ hw';obtain⟨q,rfl⟩:=hw';go_wp2_with fail
       go_roundw
       case rel=>exact⟨k+1,by go_num,by omega,HN.out.1,HN.out.2,HBN.out.trans (q.h.mono HBN.out.size)⟩
       case measure=>simp[intOf];omega
      ·have hf':folB p m=false:=by simpa using hf
       have HFO:=Lib.hid (fun w=>follows_mt p m w hop ho hf');have HE:=Lib.hid (blE_no (HOK.out false (by
        subst hj;rw[<-HX.out.1];exact rowM_off hxp hx hf')))
       obtain⟨ma,ms,mr,mc,mf,me,ml⟩:=m;obtain⟨pa,ps,pr,pc,pf,pe,pl⟩:=p;unfold mv magg at HA HFO;dsimp only at *
       subst hA;clear ho hx HX hbk hk0 hj hX hA' hbk' hxp pc0 pc1 pc2 pc3 pc4 pc5 pc6 hop hlt hf hf';go_wp2_with fail
       generalize wr.alloc (.cells #[.int .i64 (ma:Int),.int .i64 (ms:Int),.int .i64 (mr:Int),.int .i64 (mc:Int),.int .i64 (mf:Int),.int .i64 (me:Int),.int .i64 (ml:Int)] 66)=w2 at *
       have l2:=HM0.out.lt;have b0:∀q:Bw w2,q.to.cell? ⟨wr.heap.size,0,none⟩=some (.int .i64 ma):=fun q=>q.cell l2 HM0.out.c0
       have b1:∀q:Bw w2,q.to.cell? ⟨wr.heap.size,1,none⟩=some (.int .i64 ms):=fun q=>q.cell l2 HM0.out.c1
       have b2:∀q:Bw w2,q.to.cell? ⟨wr.heap.size,2,none⟩=some (.int .i64 mr):=fun q=>q.cell l2 HM0.out.c2
       have b3:∀q:Bw w2,q.to.cell? ⟨wr.heap.size,3,none⟩=some (.int .i64 mc):=fun q=>q.cell l2 HM0.out.c3
       have b4:∀q:Bw w2,q.to.cell? ⟨wr.heap.size,4,none⟩=some (.int .i64 mf):=fun q=>q.cell l2 HM0.out.c4
       have b5:∀q:Bw w2,q.to.cell? ⟨wr.heap.size,5,none⟩=some (.int .i64 me):=fun q=>q.cell l2 HM0.out.c5
       have b6:∀q:Bw w2,q.to.cell? ⟨wr.heap.size,6,none⟩=some (.int .i64 ml):=fun q=>q.cell l2 HM0.out.c6
       have p0:∀q:Bw w2,q.to.cell? (ad.add (j*7))=some (.int .i64 pa):=fun q=>q.cellAt PB.out PC.out.1
       have p1:∀q:Bw w2,q.to.cell? ⟨(ad.add (j*7)).block,(ad.add (j*7)).off+1,none⟩=some (.int .i64 ps):=fun q=>q.cellAt PB.out PC.out.2.1
       have p2:∀q:Bw w2,q.to.cell? ⟨(ad.add (j*7)).block,(ad.add (j*7)).off+2,none⟩=some (.int .i64 pr):=fun q=>q.cellAt PB.out PC.out.2.2.1
       have p3:∀q:Bw w2,q.to.cell? ⟨(ad.add (j*7)).block,(ad.add (j*7)).off+3,none⟩=some (.int .i64 pc):=fun q=>q.cellAt PB.out PC.out.2.2.2.1
       have p4:∀q:Bw w2,q.to.cell? ⟨(ad.add (j*7)).block,(ad.add (j*7)).off+4,none⟩=some (.int .i64 pf):=fun q=>q.cellAt PB.out PC.out.2.2.2.2.1
       have p5:∀q:Bw w2,q.to.cell? ⟨(ad.add (j*7)).block,(ad.add (j*7)).off+5,none⟩=some (.int .i64 pe):=fun q=>q.cellAt PB.out PC.out.2.2.2.2.2.1
       have p6:∀q:Bw w2,q.to.cell? ⟨(ad.add (j*7)).block,(ad.add (j*7)).off+6,none⟩=some (.int .i64 pl):=fun q=>q.cellAt PB.out PC.out.2.2.2.2.2.2
       refine wp_region_quiet_below (by assumption) (by kernel_rfl) ?_
       repeat (first|go_big_quiet_skip|quiet_step (first|(go_at_call 148;refine below_of (HA.out _))|(go_at_call 149;refine below_of (HFO.out _))))
       refine wpQuiet_nil ?_;intro _ hw';obtain⟨q,rfl⟩:=hw';go_wp2_with fail
       go_ret
       exact⟨by rw[HE.out];rfl,HBN.out.trans (q.h.mono HBN.out.size)⟩
    ·have ho':okM m=false:=by simpa using ho
     have HA:=Lib.hid (fun w=>alone_mt m w ho');have HE:=Lib.hid (blE_no (HOK.out false (by rw[<-HX.out.1];exact rowM_bad hx ho')));obtain⟨ma,ms,mr,mc,mf,me,ml⟩:=m;unfold mv magg at HA;dsimp only at *
     subst hA;clear ho ho' hx HX hbk;go_wp2_with fail
     generalize wr.alloc (.cells #[.int .i64 (ma:Int),.int .i64 (ms:Int),.int .i64 (mr:Int),.int .i64 (mc:Int),.int .i64 (mf:Int),.int .i64 (me:Int),.int .i64 (ml:Int)] 66)=w2 at *
     have l2:=HM0.out.lt;have b0:∀q:Bw w2,q.to.cell? ⟨wr.heap.size,0,none⟩=some (.int .i64 ma):=fun q=>q.cell l2 HM0.out.c0
     have b1:∀q:Bw w2,q.to.cell? ⟨wr.heap.size,1,none⟩=some (.int .i64 ms):=fun q=>q.cell l2 HM0.out.c1
     have b2:∀q:Bw w2,q.to.cell? ⟨wr.heap.size,2,none⟩=some (.int .i64 mr):=fun q=>q.cell l2 HM0.out.c2
     have b3:∀q:Bw w2,q.to.cell? ⟨wr.heap.size,3,none⟩=some (.int .i64 mc):=fun q=>q.cell l2 HM0.out.c3
     have b4:∀q:Bw w2,q.to.cell? ⟨wr.heap.size,4,none⟩=some (.int .i64 mf):=fun q=>q.cell l2 HM0.out.c4
     have b5:∀q:Bw w2,q.to.cell? ⟨wr.heap.size,5,none⟩=some (.int .i64 me):=fun q=>q.cell l2 HM0.out.c5
     have b6:∀q:Bw w2,q.to.cell? ⟨wr.heap.size,6,none⟩=some (.int .i64 ml):=fun q=>q.cell l2 HM0.out.c6
     refine wp_region_quiet_below (by assumption) (by kernel_rfl) ?_
     repeat (first|go_big_quiet_skip|quiet_step (first|(go_at_call 148;refine below_of (HA.out _))))
     refine wpQuiet_nil ?_;intro _ hw';obtain⟨q,rfl⟩:=hw';go_wp2_with fail
     go_ret
     exact⟨by rw[HE.out];rfl,HBN.out.trans (q.h.mono HBN.out.size)⟩
   ·obtain rfl:k=n:=by omega
    have HE:=Lib.hid (blE_yes (HOK.out true (by rw[<-HX.out.1];exact rowM_end (by rw[HLN.out];omega))));have HB:=Lib.hid HX.out.2.2;clear HX;go_wp2_with fail
    go_ret
    exact⟨by rw[HE.out];rfl,HB.out⟩
end Sn
end Go.Proofs.YtphfmgapiimliaaGreat
