/- head: Blocks. head: last, Next. append of several numbers at once onto a slice of the call's own. head.PutFoot. head.End. seg: Seal. Slices of api.Meta (seven cells) that the call itself makes: append. scan.Tail's closure: does a block go on? scan.meta. scan.Tail: what lies in memory in its loop. scan.Tail. scan.Tail, where the header stands. -/
import Derived.Test.YtlnbjikooadmoaaGreatKe52
import Derived.Test.YtlnbjikooadmoaaGreatKe03
import Derived.Deep.LoopGhost
import Derived.Test.YtlnbjikooadmoaaGreatKe50
import Derived.Deep.RegionLaw
import Derived.Deep.RegionHeld3
import Derived.Test.YtlnbjikooadmoaaGreatKe51
import Derived.Test.YtlnbjikooadmoaaGreatKe48
import Derived.Deep.Cut
import Derived.WalkMore
import Derived.Deep.CutBlock
namespace Go.Proofs.YtlnbjikooadmoaaGreat
namespace Sn
open Go.RowKit Hd Bk
def blE (l:List Mt):Int:=if okBl l=true then 0 else 211
theorem blE_yes {l:List Mt} (h:okBl l=true):blE l=0:=if_pos h
theorem blE_no {l:List Mt} (h:okBl l=false):blE l=211:=if_neg (by rw[h];simp)
def pvM (l:List Mt) (k:Nat):Option Mt:=if k=0 then none else l[k-1]?
theorem rowM_bad {l:List Mt} {k:Nat} {m:Mt} (h:l[k]? =some m) (ho:okM m=false):rowM (pvM l k) (l.drop k)=false:=by
 rw[drop_at l k m h]
 rcases pvM l k with _|p<;>simp[rowM,ho]
theorem rowM_off {l:List Mt} {k:Nat} {p m:Mt} (hp:l[k]? =some p) (h:l[k+1]? =some m) (ho:folB p m=false):rowM (pvM l (k+1)) (l.drop (k+1))=false:=by
 have e:pvM l (k+1)=some p:=by unfold pvM;rw[if_neg (by omega),Nat.add_sub_cancel,hp]
 rw[drop_at l (k+1) m h,e]
 simp[rowM,ho]
theorem rowM_on {l:List Mt} {k:Nat} {p m:Mt} (hp:l[k]? =some p) (h:l[k+1]? =some m) (h1:okM m=true) (ho:folB p m=true):rowM (pvM l (k+1)) (l.drop (k+1))=rowM (pvM l (k+2)) (l.drop (k+2)):=by
 have e:pvM l (k+1)=some p:=by unfold pvM;rw[if_neg (by omega),Nat.add_sub_cancel,hp]
 have e2:pvM l (k+2)=some m:=by unfold pvM;rw[if_neg (by omega),show k+2-1=k+1 by omega,h]
 rw[drop_at l (k+1) m h,e,e2]
 simp[rowM,ho,h1]
theorem rowM_on0 {l:List Mt} {m:Mt} (h:l[0]? =some m) (h1:okM m=true):rowM (pvM l 0) (l.drop 0)=rowM (pvM l 1) (l.drop 1):=by
 have e2:pvM l 1=some m:=by unfold pvM;rw[if_neg (by omega)];exact h
 rw[drop_at l 0 m h,e2]
 simp[pvM,rowM,h1]
theorem rowM_end {l:List Mt} {k:Nat} (h:l.length<=k):rowM (pvM l k) (l.drop k)=true:=by
 rw[List.drop_eq_nil_of_le h]
 rcases pvM l k with _|p<;>rfl
theorem alone_mt (m:Mt) (w:World) {b:Bool} (h:okM m=b):Calls Tryz.prog 82 #[mv m] w fun e w'=>e=.returned (.bool b)/\Below w.heap.size w w':=by
 have:=alone_any m.a m.s m.r m.c m.f m.e m.l w
 subst h
 exact this
theorem follows_mt (p m:Mt) (w:World) (hp:okM p=true) (hm:okM m=true) {b:Bool} (h:folB p m=b) :
  Calls Tryz.prog 83 #[mv p,mv m] w fun e w'=>e=.returned (.bool b)/\Below w.heap.size w w':=by
 subst h
 exact follows_any p m w hp hm
set_option maxHeartbeats 6400000 in
set_option maxRecDepth 100000 in
theorem blocks_any (A:Option Addr) (n c:Nat) (l:List Mt) (w:World) (hrd:Rd w w.heap.size 7 A n (fl7 l)) (hn:n<=1000000) :
  Calls Tryz.prog 33 #[.slice A n c] w fun e w'=>e=.returned (.int .i64 (blE l))/\Below w.heap.size w w':=by
 have mixed:Tryz.prog.follows .mixedOrders=true:=by kernel_rfl
 have hln:=mt_len hrd
 by_cases hbig:1000<n
 ·have HE:=Lib.hid (blE_no (l:=l) (by unfold okBl;rw[hln,Bool.and_eq_false_iff];left;exact decide_eq_false (by omega)))
  have hb':(1000:Int)<(n:Int):=by omega
  clear hrd hln
  go_enter Tryz.func33, Tryz.ntmps33
  go_wp2_with fail
  go_ret
  exact⟨by rw[HE.out];rfl,Below.refl _ _⟩
 ·have hb': ¬ (1000:Int)<(n:Int):=by omega
  have HOK:=Lib.hid (show ∀b,rowM none l=b->okBl l=b from fun b h=>by unfold okBl;rw[h,hln,decide_eq_true (by omega)];rfl)
  have HLN:=Lib.hid hln
  have HR:=Lib.hid hrd
  clear hrd hln hbig
  go_enter Tryz.func33, Tryz.ntmps33
  go_wp2_with fail
  go_loopw [10] (fun v wr=>∃k:Nat,v=.int .i64 k/\k<=n/\Hid (rowM (pvM l k) (l.drop k)=rowM none l/\(∀j r,j<k->l[j]? =some r->okM r=true)/\Below w.heap.size w wr)) (fun v _=>n-(intOf v).toNat)
  case atStart=>exact⟨0,by go_num,by omega,rfl,fun j r h=>absurd h (by omega),Below.refl _ _⟩
  case round =>
   obtain⟨k,rfl,hk,HX⟩:=hrel
   by_cases hkn:k<n
   ·obtain⟨ad,m,hA,hbk,hx,hc0,hc1,hc2,hc3,hc4,hc5,hc6⟩:=mt_at (HR.out.below HX.out.2.2) hkn
    have hbr:(ad.add (k*7)).block<wr.heap.size:=by rw[add_block];exact Nat.lt_of_lt_of_le hbk HX.out.2.2.size
    have HBR:=Lib.hid hbr
    have HBN:=Lib.hid (HX.out.2.2.trans ((ext_alloc wr (.cells #[.int .i64 m.a,.int .i64 m.s,.int .i64 m.r,.int .i64 m.c,.int .i64 m.f,.int .i64 m.e,.int .i64 m.l] 39)).mono HX.out.2.2.size))
    have HM0:=Lib.hid (show Mb (wr.alloc (.cells #[.int .i64 m.a,.int .i64 m.s,.int .i64 m.r,.int .i64 m.c,.int .i64 m.f,.int .i64 m.e,.int .i64 m.l] 39)) wr.heap.size m.a m.s m.r m.c m.f m.e m.l from heap_alloc_new wr _)
    have HSZ:=Lib.hid HX.out.2.2.size
    clear hbr
    by_cases ho:okM m=true
    ·have HA:=Lib.hid (fun w=>alone_mt m w ho)
     by_cases hk0:k=0
     ·have HN:=Lib.hid (show rowM (pvM l (k+1)) (l.drop (k+1))=rowM none l/\ ∀j r,j<k+1->l[j]? =some r->okM r=true from by
       subst hk0
       refine⟨(rowM_on0 hx ho).symm.trans HX.out.1,fun j r hj hr=>?_⟩
       obtain rfl:j=0:=by omega
       rw[hx] at hr;cases hr;exact ho)
      have hk1:decide (0<k)=false:=decide_eq_false (by omega)
      obtain⟨ma,ms,mr,mc,mf,me,ml⟩:=m
      unfold mv magg at HA
      dsimp only at *
      subst hA
      clear ho hx HX hbk hk0
      go_wp2_with fail
      generalize wr.alloc (.cells #[.int .i64 (ma:Int),.int .i64 (ms:Int),.int .i64 (mr:Int),.int .i64 (mc:Int),.int .i64 (mf:Int),.int .i64 (me:Int),.int .i64 (ml:Int)] 39)=w2 at *
      have l2:=HM0.out.lt
      have b0:∀q:Bw w2,q.to.cell? ⟨wr.heap.size,0,none⟩=some (.int .i64 ma):=fun q=>q.cell l2 HM0.out.c0
      have b1:∀q:Bw w2,q.to.cell? ⟨wr.heap.size,1,none⟩=some (.int .i64 ms):=fun q=>q.cell l2 HM0.out.c1
      have b2:∀q:Bw w2,q.to.cell? ⟨wr.heap.size,2,none⟩=some (.int .i64 mr):=fun q=>q.cell l2 HM0.out.c2
      have b3:∀q:Bw w2,q.to.cell? ⟨wr.heap.size,3,none⟩=some (.int .i64 mc):=fun q=>q.cell l2 HM0.out.c3
      have b4:∀q:Bw w2,q.to.cell? ⟨wr.heap.size,4,none⟩=some (.int .i64 mf):=fun q=>q.cell l2 HM0.out.c4
      have b5:∀q:Bw w2,q.to.cell? ⟨wr.heap.size,5,none⟩=some (.int .i64 me):=fun q=>q.cell l2 HM0.out.c5
      have b6:∀q:Bw w2,q.to.cell? ⟨wr.heap.size,6,none⟩=some (.int .i64 ml):=fun q=>q.cell l2 HM0.out.c6
      refine wp_region_quiet_below (by assumption) (by kernel_rfl) ?_
      repeat (first|go_big_quiet_skip|quiet_step (first|(go_at_call 82;refine below_of (HA.out _))))
      refine wpQuiet_nil ?_
      intro _ hw'
      obtain⟨q,rfl⟩:=hw'
      go_wp2_with fail
      go_roundw
      case rel=>exact⟨k+1,by go_num,by omega,HN.out.1,HN.out.2,HBN.out.trans (q.h.mono HBN.out.size)⟩
      case measure=>simp[intOf];omega
     ·obtain⟨j,hj⟩:∃j,k=j+1:=⟨k-1,by omega⟩
      have hX:Rd w w.heap.size 7 A n (fl7 l):=HR.out
      obtain⟨ad',p,hA',hbk',hxp,pc0,pc1,pc2,pc3,pc4,pc5,pc6⟩:=mt_at (k:=j) (hX.below HX.out.2.2) (by omega)
      obtain rfl:ad=ad':=Option.some.inj (hA.symm.trans hA')
      have hop:okM p=true:=HX.out.2.1 j p (by omega) hxp
      have PB:=Lib.hid (show(ad.add (j*7)).block<(wr.alloc (.cells #[.int .i64 m.a,.int .i64 m.s,.int .i64 m.r,.int .i64 m.c,.int .i64 m.f,.int .i64 m.e,.int .i64 m.l] 39)).heap.size from by rw[add_block];have:=HSZ.out;simp;omega)
      have hlt:(ad.add (j*7)).block<wr.heap.size:=by rw[add_block];exact Nat.lt_of_lt_of_le hbk HSZ.out
      have PC:=Lib.hid (And.intro ((World.cell?_alloc_lt wr (.cells #[.int .i64 m.a,.int .i64 m.s,.int .i64 m.r,.int .i64 m.c,.int .i64 m.f,.int .i64 m.e,.int .i64 m.l] 39) _ hlt).trans pc0) (And.intro ((World.cell?_alloc_lt wr (.cells #[.int .i64 m.a,.int .i64 m.s,.int .i64 m.r,.int .i64 m.c,.int .i64 m.f,.int .i64 m.e,.int .i64 m.l] 39) ⟨(ad.add (j*7)).block,(ad.add (j*7)).off+1,none⟩ hlt).trans pc1)
       (And.intro ((World.cell?_alloc_lt wr (.cells #[.int .i64 m.a,.int .i64 m.s,.int .i64 m.r,.int .i64 m.c,.int .i64 m.f,.int .i64 m.e,.int .i64 m.l] 39) ⟨(ad.add (j*7)).block,(ad.add (j*7)).off+2,none⟩ hlt).trans pc2) (And.intro ((World.cell?_alloc_lt wr (.cells #[.int .i64 m.a,.int .i64 m.s,.int .i64 m.r,.int .i64 m.c,.int .i64 m.f,.int .i64 m.e,.int .i64 m.l] 39) ⟨(ad.add (j*7)).block,(ad.add (j*7)).off+3,none⟩ hlt).trans pc3)
       (And.intro ((World.cell?_alloc_lt wr (.cells #[.int .i64 m.a,.int .i64 m.s,.int .i64 m.r,.int .i64 m.c,.int .i64 m.f,.int .i64 m.e,.int .i64 m.l] 39) ⟨(ad.add (j*7)).block,(ad.add (j*7)).off+4,none⟩ hlt).trans pc4) (And.intro ((World.cell?_alloc_lt wr (.cells #[.int .i64 m.a,.int .i64 m.s,.int .i64 m.r,.int .i64 m.c,.int .i64 m.f,.int .i64 m.e,.int .i64 m.l] 39) ⟨(ad.add (j*7)).block,(ad.add (j*7)).off+5,none⟩ hlt).trans pc5)
        ((World.cell?_alloc_lt wr (.cells #[.int .i64 m.a,.int .i64 m.s,.int .i64 m.r,.int .i64 m.c,.int .i64 m.f,.int .i64 m.e,.int .i64 m.l] 39) ⟨(ad.add (j*7)).block,(ad.add (j*7)).off+6,none⟩ hlt).trans pc6)))))))
      have hk1:decide (0<k)=true:=decide_eq_true (by omega)
      have w1:IntKind.i64.wrap ((k:Int)-1)=(j:Int):=by rw[IntKind.wrap_i64];omega
      have hjn:(j:Int)<(n:Int):=by omega
      by_cases hf:folB p m=true
      ·have HFO:=Lib.hid (fun w=>follows_mt p m w hop ho hf)
       have HN:=Lib.hid (show rowM (pvM l (k+1)) (l.drop (k+1))=rowM none l/\ ∀j r,j<k+1->l[j]? =some r->okM r=true from by
        subst hj
        refine⟨(rowM_on hxp hx ho hf).symm.trans HX.out.1,fun i r hi hr=>?_⟩
        rcases Nat.lt_or_ge i (j+1) with h|h
        ·exact HX.out.2.1 i r h hr
        ·obtain rfl:i=j+1:=by omega
         rw[hx] at hr;cases hr;exact ho)
       obtain⟨ma,ms,mr,mc,mf,me,ml⟩:=m
       obtain⟨pa,ps,pr,pc,pf,pe,pl⟩:=p
       unfold mv magg at HA HFO
       dsimp only at *
       subst hA
       clear ho hx HX hbk hk0 hj hX hA' hbk' hxp pc0 pc1 pc2 pc3 pc4 pc5 pc6 hop hlt hf
       go_wp2_with fail
       generalize wr.alloc (.cells #[.int .i64 (ma:Int),.int .i64 (ms:Int),.int .i64 (mr:Int),.int .i64 (mc:Int),.int .i64 (mf:Int),.int .i64 (me:Int),.int .i64 (ml:Int)] 39)=w2 at *
       have l2:=HM0.out.lt
       have b0:∀q:Bw w2,q.to.cell? ⟨wr.heap.size,0,none⟩=some (.int .i64 ma):=fun q=>q.cell l2 HM0.out.c0
       have b1:∀q:Bw w2,q.to.cell? ⟨wr.heap.size,1,none⟩=some (.int .i64 ms):=fun q=>q.cell l2 HM0.out.c1
       have b2:∀q:Bw w2,q.to.cell? ⟨wr.heap.size,2,none⟩=some (.int .i64 mr):=fun q=>q.cell l2 HM0.out.c2
       have b3:∀q:Bw w2,q.to.cell? ⟨wr.heap.size,3,none⟩=some (.int .i64 mc):=fun q=>q.cell l2 HM0.out.c3
       have b4:∀q:Bw w2,q.to.cell? ⟨wr.heap.size,4,none⟩=some (.int .i64 mf):=fun q=>q.cell l2 HM0.out.c4
       have b5:∀q:Bw w2,q.to.cell? ⟨wr.heap.size,5,none⟩=some (.int .i64 me):=fun q=>q.cell l2 HM0.out.c5
       have b6:∀q:Bw w2,q.to.cell? ⟨wr.heap.size,6,none⟩=some (.int .i64 ml):=fun q=>q.cell l2 HM0.out.c6
       have p0:∀q:Bw w2,q.to.cell? (ad.add (j*7))=some (.int .i64 pa):=fun q=>q.cellAt PB.out PC.out.1
       have p1:∀q:Bw w2,q.to.cell? ⟨(ad.add (j*7)).block,(ad.add (j*7)).off+1,none⟩=some (.int .i64 ps):=fun q=>q.cellAt PB.out PC.out.2.1
       have p2:∀q:Bw w2,q.to.cell? ⟨(ad.add (j*7)).block,(ad.add (j*7)).off+2,none⟩=some (.int .i64 pr):=fun q=>q.cellAt PB.out PC.out.2.2.1
       have p3:∀q:Bw w2,q.to.cell? ⟨(ad.add (j*7)).block,(ad.add (j*7)).off+3,none⟩=some (.int .i64 pc):=fun q=>q.cellAt PB.out PC.out.2.2.2.1
       have p4:∀q:Bw w2,q.to.cell? ⟨(ad.add (j*7)).block,(ad.add (j*7)).off+4,none⟩=some (.int .i64 pf):=fun q=>q.cellAt PB.out PC.out.2.2.2.2.1
       have p5:∀q:Bw w2,q.to.cell? ⟨(ad.add (j*7)).block,(ad.add (j*7)).off+5,none⟩=some (.int .i64 pe):=fun q=>q.cellAt PB.out PC.out.2.2.2.2.2.1
       have p6:∀q:Bw w2,q.to.cell? ⟨(ad.add (j*7)).block,(ad.add (j*7)).off+6,none⟩=some (.int .i64 pl):=fun q=>q.cellAt PB.out PC.out.2.2.2.2.2.2
       refine wp_region_quiet_below (by assumption) (by kernel_rfl) ?_
       repeat (first|go_big_quiet_skip|quiet_step (first|(go_at_call 82;refine below_of (HA.out _))|(go_at_call 83;refine below_of (HFO.out _))))
       refine wpQuiet_nil ?_
       intro _ hw'
       obtain⟨q,rfl⟩:=hw'
       go_wp2_with fail
       go_roundw
       case rel=>exact⟨k+1,by go_num,by omega,HN.out.1,HN.out.2,HBN.out.trans (q.h.mono HBN.out.size)⟩
       case measure=>simp[intOf];omega
      ·have hf':folB p m=false:=by simpa using hf
       have HFO:=Lib.hid (fun w=>follows_mt p m w hop ho hf')
       have HE:=Lib.hid (blE_no (HOK.out false (by
        subst hj
        rw[<-HX.out.1];exact rowM_off hxp hx hf')))
       obtain⟨ma,ms,mr,mc,mf,me,ml⟩:=m
       obtain⟨pa,ps,pr,pc,pf,pe,pl⟩:=p
       unfold mv magg at HA HFO
       dsimp only at *
       subst hA
       clear ho hx HX hbk hk0 hj hX hA' hbk' hxp pc0 pc1 pc2 pc3 pc4 pc5 pc6 hop hlt hf hf'
       go_wp2_with fail
       generalize wr.alloc (.cells #[.int .i64 (ma:Int),.int .i64 (ms:Int),.int .i64 (mr:Int),.int .i64 (mc:Int),.int .i64 (mf:Int),.int .i64 (me:Int),.int .i64 (ml:Int)] 39)=w2 at *
       have l2:=HM0.out.lt
       have b0:∀q:Bw w2,q.to.cell? ⟨wr.heap.size,0,none⟩=some (.int .i64 ma):=fun q=>q.cell l2 HM0.out.c0
       have b1:∀q:Bw w2,q.to.cell? ⟨wr.heap.size,1,none⟩=some (.int .i64 ms):=fun q=>q.cell l2 HM0.out.c1
       have b2:∀q:Bw w2,q.to.cell? ⟨wr.heap.size,2,none⟩=some (.int .i64 mr):=fun q=>q.cell l2 HM0.out.c2
       have b3:∀q:Bw w2,q.to.cell? ⟨wr.heap.size,3,none⟩=some (.int .i64 mc):=fun q=>q.cell l2 HM0.out.c3
       have b4:∀q:Bw w2,q.to.cell? ⟨wr.heap.size,4,none⟩=some (.int .i64 mf):=fun q=>q.cell l2 HM0.out.c4
       have b5:∀q:Bw w2,q.to.cell? ⟨wr.heap.size,5,none⟩=some (.int .i64 me):=fun q=>q.cell l2 HM0.out.c5
       have b6:∀q:Bw w2,q.to.cell? ⟨wr.heap.size,6,none⟩=some (.int .i64 ml):=fun q=>q.cell l2 HM0.out.c6
       have p0:∀q:Bw w2,q.to.cell? (ad.add (j*7))=some (.int .i64 pa):=fun q=>q.cellAt PB.out PC.out.1
       have p1:∀q:Bw w2,q.to.cell? ⟨(ad.add (j*7)).block,(ad.add (j*7)).off+1,none⟩=some (.int .i64 ps):=fun q=>q.cellAt PB.out PC.out.2.1
       have p2:∀q:Bw w2,q.to.cell? ⟨(ad.add (j*7)).block,(ad.add (j*7)).off+2,none⟩=some (.int .i64 pr):=fun q=>q.cellAt PB.out PC.out.2.2.1
       have p3:∀q:Bw w2,q.to.cell? ⟨(ad.add (j*7)).block,(ad.add (j*7)).off+3,none⟩=some (.int .i64 pc):=fun q=>q.cellAt PB.out PC.out.2.2.2.1
       have p4:∀q:Bw w2,q.to.cell? ⟨(ad.add (j*7)).block,(ad.add (j*7)).off+4,none⟩=some (.int .i64 pf):=fun q=>q.cellAt PB.out PC.out.2.2.2.2.1
       have p5:∀q:Bw w2,q.to.cell? ⟨(ad.add (j*7)).block,(ad.add (j*7)).off+5,none⟩=some (.int .i64 pe):=fun q=>q.cellAt PB.out PC.out.2.2.2.2.2.1
       have p6:∀q:Bw w2,q.to.cell? ⟨(ad.add (j*7)).block,(ad.add (j*7)).off+6,none⟩=some (.int .i64 pl):=fun q=>q.cellAt PB.out PC.out.2.2.2.2.2.2
       refine wp_region_quiet_below (by assumption) (by kernel_rfl) ?_
       repeat (first|go_big_quiet_skip|quiet_step (first|(go_at_call 82;refine below_of (HA.out _))|(go_at_call 83;refine below_of (HFO.out _))))
       refine wpQuiet_nil ?_
       intro _ hw'
       obtain⟨q,rfl⟩:=hw'
       go_wp2_with fail
       go_ret
       exact⟨by rw[HE.out];rfl,HBN.out.trans (q.h.mono HBN.out.size)⟩
    ·have ho':okM m=false:=by simpa using ho
     have HA:=Lib.hid (fun w=>alone_mt m w ho')
     have HE:=Lib.hid (blE_no (HOK.out false (by rw[<-HX.out.1];exact rowM_bad hx ho')))
     obtain⟨ma,ms,mr,mc,mf,me,ml⟩:=m
     unfold mv magg at HA
     dsimp only at *
     subst hA
     clear ho ho' hx HX hbk
     go_wp2_with fail
     generalize wr.alloc (.cells #[.int .i64 (ma:Int),.int .i64 (ms:Int),.int .i64 (mr:Int),.int .i64 (mc:Int),.int .i64 (mf:Int),.int .i64 (me:Int),.int .i64 (ml:Int)] 39)=w2 at *
     have l2:=HM0.out.lt
     have b0:∀q:Bw w2,q.to.cell? ⟨wr.heap.size,0,none⟩=some (.int .i64 ma):=fun q=>q.cell l2 HM0.out.c0
     have b1:∀q:Bw w2,q.to.cell? ⟨wr.heap.size,1,none⟩=some (.int .i64 ms):=fun q=>q.cell l2 HM0.out.c1
     have b2:∀q:Bw w2,q.to.cell? ⟨wr.heap.size,2,none⟩=some (.int .i64 mr):=fun q=>q.cell l2 HM0.out.c2
     have b3:∀q:Bw w2,q.to.cell? ⟨wr.heap.size,3,none⟩=some (.int .i64 mc):=fun q=>q.cell l2 HM0.out.c3
     have b4:∀q:Bw w2,q.to.cell? ⟨wr.heap.size,4,none⟩=some (.int .i64 mf):=fun q=>q.cell l2 HM0.out.c4
     have b5:∀q:Bw w2,q.to.cell? ⟨wr.heap.size,5,none⟩=some (.int .i64 me):=fun q=>q.cell l2 HM0.out.c5
     have b6:∀q:Bw w2,q.to.cell? ⟨wr.heap.size,6,none⟩=some (.int .i64 ml):=fun q=>q.cell l2 HM0.out.c6
     refine wp_region_quiet_below (by assumption) (by kernel_rfl) ?_
     repeat (first|go_big_quiet_skip|quiet_step (first|(go_at_call 82;refine below_of (HA.out _))))
     refine wpQuiet_nil ?_
     intro _ hw'
     obtain⟨q,rfl⟩:=hw'
     go_wp2_with fail
     go_ret
     exact⟨by rw[HE.out];rfl,HBN.out.trans (q.h.mono HBN.out.size)⟩
   ·obtain rfl:k=n:=by omega
    have HE:=Lib.hid (blE_yes (HOK.out true (by rw[<-HX.out.1];exact rowM_end (by rw[HLN.out];omega))))
    have HB:=Lib.hid HX.out.2.2
    clear HX
    go_wp2_with fail
    go_ret
    exact⟨by rw[HE.out];rfl,HB.out⟩
end Sn
end Go.Proofs.YtlnbjikooadmoaaGreat
namespace Go.Proofs.YtlnbjikooadmoaaGreat
namespace Sn
open Go.RowKit Hd Bk
def m0:Mt:=⟨0,0,0,0,0,0,0⟩
set_option maxHeartbeats 3200000 in
set_option maxRecDepth 100000 in
theorem last_nil (A:Option Addr) (c:Nat) (w:World) :
  Calls Tryz.prog 34 #[.slice A 0 c] w fun e w'=>e=.returned (.tuple #[magg 0 0 0 0 0 0 0,.bool false])/\Below w.heap.size w w':=by
 have mixed:Tryz.prog.follows .mixedOrders=true:=by kernel_rfl
 have HB:=Lib.hid (ext_alloc w (.cells #[.int .i64 0,.int .i64 0,.int .i64 0,.int .i64 0,.int .i64 0,.int .i64 0,.int .i64 0] 39))
 have HI:=Lib.hid (show(Tryz.prog.info? 39).map (·.size)=some 7 by kernel_rfl)
 unfold magg
 go_enter Tryz.func34, Tryz.ntmps34
 go_wp2_with (first|(refine wpList_store_new w #[.int .i64 0,.int .i64 0,.int .i64 0,.int .i64 0,.int .i64 0,.int .i64 0,.int .i64 0] rfl 39 (.tmp 2) (.tmp 12) rfl #[.int .i64 0,.int .i64 0,.int .i64 0,.int .i64 0,.int .i64 0,.int .i64 0,.int .i64 0] (by simp[go_sem,Act.eval]) (by simp[go_sem,Act.eval]) HI.out rfl rfl ?_))
 refine bodyPost_ret (v:=.tuple #[.agg #[.int .i64 0,.int .i64 0,.int .i64 0,.int .i64 0,.int .i64 0,.int .i64 0,.int .i64 0],.bool false]) (by simp[results,go_sem]) rfl ?_
 exact⟨rfl,HB.out⟩
set_option maxHeartbeats 3200000 in
set_option maxRecDepth 100000 in
theorem last_ok (A:Option Addr) (n c:Nat) (l:List Mt) (m:Mt) (w:World) (hrd:Rd w w.heap.size 7 A n (fl7 l)) (hn0:0<n) (hn:n<=100000) (hl:l.getLast? =some m) (ho:okBl l=true) :
  Calls Tryz.prog 34 #[.slice A n c] w fun e w'=>e=.returned (.tuple #[mv m,.bool true])/\Below w.heap.size w w':=by
 have mixed:Tryz.prog.follows .mixedOrders=true:=by kernel_rfl
 have HB:=Lib.hid (ext_alloc w (.cells #[.int .i64 0,.int .i64 0,.int .i64 0,.int .i64 0,.int .i64 0,.int .i64 0,.int .i64 0] 39))
 have HM:=Lib.hid (Mb.new w)
 have hln:=mt_len hrd
 have hbl:=blocks_any A n c l (w.alloc (.cells #[.int .i64 0,.int .i64 0,.int .i64 0,.int .i64 0,.int .i64 0,.int .i64 0,.int .i64 0] 39)) (hrd.ext HB.out) (by omega)
 rw[blE_yes ho] at hbl
 have HBL:=Lib.hid hbl
 obtain⟨j,hj⟩:∃j,n=j+1:=⟨n-1,by omega⟩
 obtain⟨ad,m',hA,hbk,hx,pc0,pc1,pc2,pc3,pc4,pc5,pc6⟩:=mt_at (k:=j) hrd (by omega)
 rw[List.getLast?_eq_getElem?,hln,hj,Nat.add_sub_cancel,hx] at hl
 obtain rfl:=Option.some.inj hl
 have HC:=Lib.hid (And.intro pc0 (And.intro pc1 (And.intro pc2 (And.intro pc3 (And.intro pc4 (And.intro pc5 pc6))))))
 have HAB:=Lib.hid (show(ad.add (j*7)).block<w.heap.size by rw[add_block];exact hbk)
 have b1:((n:Int)==0)=false:=by rw[beq_eq_false_iff_ne];omega
 have b2:IntKind.i64.wrap ((n:Int)-1)=(j:Int):=by rw[IntKind.wrap_i64];omega
 have b3:(j:Int)<(n:Int):=by omega
 obtain⟨ma,ms,mr,mc,mf,me,ml⟩:=m'
 subst hA
 clear hbl hrd hl hx hln pc0 pc1 pc2 pc3 pc4 pc5 pc6 ho hj hn0
 unfold mv magg
 dsimp only at *
 have b4: ¬ (j+1=0):=by omega
 go_enter Tryz.func34, Tryz.ntmps34
 go_wp2_with fail
 generalize w.alloc (.cells #[.int .i64 0,.int .i64 0,.int .i64 0,.int .i64 0,.int .i64 0,.int .i64 0,.int .i64 0] 39)=w0 at *
 refine HBL.out.mono ?_
 rintro e1 w1 ⟨rfl,hb1⟩
 have hb:=HB.out.trans (hb1.mono HB.out.size)
 have HB1:=Lib.hid hb
 have hM:=HM.out.below hb1 HM.out.lt
 have f0:=hM.fz
 have c0:=(hb.cell HAB.out).trans HC.out.1
 have c1:=(hb.cell (p:=⟨(ad.add (j*7)).block,(ad.add (j*7)).off+1,none⟩) HAB.out).trans HC.out.2.1
 have c2:=(hb.cell (p:=⟨(ad.add (j*7)).block,(ad.add (j*7)).off+2,none⟩) HAB.out).trans HC.out.2.2.1
 have c3:=(hb.cell (p:=⟨(ad.add (j*7)).block,(ad.add (j*7)).off+3,none⟩) HAB.out).trans HC.out.2.2.2.1
 have c4:=(hb.cell (p:=⟨(ad.add (j*7)).block,(ad.add (j*7)).off+4,none⟩) HAB.out).trans HC.out.2.2.2.2.1
 have c5:=(hb.cell (p:=⟨(ad.add (j*7)).block,(ad.add (j*7)).off+5,none⟩) HAB.out).trans HC.out.2.2.2.2.2.1
 have c6:=(hb.cell (p:=⟨(ad.add (j*7)).block,(ad.add (j*7)).off+6,none⟩) HAB.out).trans HC.out.2.2.2.2.2.2
 have q0:=hM.c0
 have q1:=hM.c1
 have q2:=hM.c2
 have q3:=hM.c3
 have q4:=hM.c4
 have q5:=hM.c5
 have q6:=hM.c6
 clear hb hb1 hM
 go_wp2_with fail
 refine bodyPost_ret (v:=.tuple #[.agg #[.int .i64 (ma:Int),.int .i64 (ms:Int),.int .i64 (mr:Int),.int .i64 (mc:Int),.int .i64 (mf:Int),.int .i64 (me:Int),.int .i64 (ml:Int)],.bool true]) (by simp[results,go_sem,q0,q1,q2,q3,q4,q5,q6]) rfl ?_
 exact⟨rfl,below_fill7 HB1.out (Nat.le_refl _)⟩
def hv (i g f:Int):Value:=.agg #[.int .i64 i,.int .i64 g,.int .i64 f]
set_option maxHeartbeats 3200000 in
set_option maxRecDepth 100000 in
theorem next_any (A:Option Addr) (n c:Nat) (i g f:Int) (h1:Nat) (l:List Mt) (w:World) (hrd:Rd w w.heap.size 7 A n (fl7 l)) (hn:n<=100000) (ho:okBl l=true) (hf:f=h1) :
  Calls Tryz.prog 90 #[hv i g f,.slice A n c] w fun e w'=>e=.returned (.int .i64 (nextM h1 l:Nat))/\Below w.heap.size w w':=by
 have mixed:Tryz.prog.follows .mixedOrders=true:=by kernel_rfl
 have HB:=Lib.hid (ext_alloc w (.cells #[.int .i64 i,.int .i64 g,.int .i64 f] 33))
 have k2:(w.alloc (.cells #[.int .i64 i,.int .i64 g,.int .i64 f] 33)).cell? ⟨w.heap.size,2,none⟩=some (.int .i64 f):=by rw[World.cell?_alloc_new];rfl
 have hlt:w.heap.size<(w.alloc (.cells #[.int .i64 i,.int .i64 g,.int .i64 f] 33)).heap.size:=by simp
 have HK:=Lib.hid (And.intro k2 hlt)
 have hln:=mt_len hrd
 unfold hv
 rcases hl:l.getLast? with _|m
 ·have hl0:l=[]:=by simpa using hl
  have hn0:n=0:=by rw[<-hln,hl0];rfl
  have HN:=Lib.hid (show(nextM h1 l:Int)=f by unfold nextM;rw[hl];exact hf.symm)
  subst hn0
  have HL:=Lib.hid (last_nil A c (w.alloc (.cells #[.int .i64 i,.int .i64 g,.int .i64 f] 33)))
  unfold magg at HL
  clear hl hl0 hln hrd k2 hlt hf
  go_enter Tryz.func90, Tryz.ntmps90
  go_wp2_with fail
  generalize w.alloc (.cells #[.int .i64 i,.int .i64 g,.int .i64 f] 33)=w0 at *
  refine HL.out.mono ?_
  rintro e1 w1 ⟨rfl,hb1⟩
  have c2:=(hb1.cell (p:=⟨w.heap.size,2,none⟩) HK.out.2).trans HK.out.1
  have HB1:=Lib.hid ((HB.out.trans (hb1.mono HB.out.size)).trans ((ext_alloc w1 (.cells #[.int .i64 0,.int .i64 0,.int .i64 0,.int .i64 0,.int .i64 0,.int .i64 0,.int .i64 0] 39)).mono (Nat.le_trans HB.out.size hb1.size)))
  have hlt1:w.heap.size<w1.heap.size:=Nat.lt_of_lt_of_le HK.out.2 hb1.size
  clear hb1
  go_wp2_with fail
  go_ret
  exact⟨by rw[HN.out];rfl,HB1.out⟩
 ·have hn0:0<n:=by
   rcases n with _|n
   ·rw[List.length_eq_zero_iff] at hln;rw[hln] at hl;cases hl
   ·omega
  have hmem:m∈l:=List.mem_of_getLast? hl
  have hok:m.f+m.c<=1000000001:=by
   have:=(okM_iff m).1 (rowM_mem l none (okBl_row ho).2 m hmem)
   omega
  have HN:=Lib.hid (show(nextM h1 l:Int)=(m.f:Int)+(m.c:Int) by unfold nextM;rw[hl];push_cast;rfl)
  have HL:=Lib.hid (last_ok A n c l m (w.alloc (.cells #[.int .i64 i,.int .i64 g,.int .i64 f] 33)) (hrd.ext HB.out) hn0 (by omega) hl ho)
  unfold mv magg at HL
  obtain⟨ma,ms,mr,mc,mf,me,ml⟩:=m
  dsimp only at *
  clear hl hln hrd k2 hlt hf hmem
  go_enter Tryz.func90, Tryz.ntmps90
  go_wp2_with fail
  generalize w.alloc (.cells #[.int .i64 i,.int .i64 g,.int .i64 f] 33)=w0 at *
  refine HL.out.mono ?_
  rintro e1 w1 ⟨rfl,hb1⟩
  have HB1:=Lib.hid ((HB.out.trans (hb1.mono HB.out.size)).trans ((ext_alloc w1 (.cells #[.int .i64 ma,.int .i64 ms,.int .i64 mr,.int .i64 mc,.int .i64 mf,.int .i64 me,.int .i64 ml] 39)).mono (Nat.le_trans HB.out.size hb1.size)))
  clear hb1
  go_wp2_with fail
  go_ret
  exact⟨by rw[HN.out];rfl,HB1.out⟩
end Sn
end Go.Proofs.YtlnbjikooadmoaaGreat
namespace Go.Proofs.YtlnbjikooadmoaaGreat
open Go.RowKit
section
variable {ops:Array Oper} {rest:List Oper} {o:Oper} {a:Act} {Q:Exit->Act->World->Prop}
theorem cell_lit_new (w:World) (t:TypeId) (l:List Value) (j:Nat) (u:Value) (h:l[j]? =some u):(w.alloc (.cells l.toArray t)).cell? ((⟨w.heap.size,0,none⟩:Addr).add j)=some u:=by
 rw[Addr.add_lit,Nat.zero_add,World.cell?_alloc_new]
 simpa using h
theorem appendL {s x:Operand} {B g m:Nat} {v:Value} {l:List Int} {w0:World} (ys:List Int) (hgw:w0.heap.size=g) (hm:ys.length=m) (hown:Own w0 B v l) (hl:l.length<=1099511627776) (hy:ys.length<=1000) (hp:0<ys.length) (hB:B<=w0.heap.size)
  (h:∀A' n' c' w',Hid (n'=l.length+ys.length)->Own w' B (.slice A' n' c') (l++ys)->Below B w0 w'->w0.grownBy w' v.ownBlock->(Value.ownBlock (.slice A' n' c')=v.ownBlock∨ ∃g,Value.ownBlock (.slice A' n' c')=some g/\w0.heap.size<=g)->wpList Tryz.prog ops Q rest (a.put o.dst (.slice A' n' c')) w')
  (hgd:o.guard=none:=by exact rfl) (ho:o.op=.call { callee:=.builtin .append,args:=#[s,x],argTypes:=#[59,59] }:=by exact rfl)
  (hs:a.eval s=v:=by exact rfl) (hx:a.eval x=.slice (some ⟨g,0,none⟩) m m:=by exact rfl) :
  wpList Tryz.prog ops Q (o::rest) a (w0.alloc (.cells (ys.map (Value.int .i64)).toArray 3)):=by
 subst hgw hm
 obtain⟨i0,hi,hz0,hz1,hz2⟩:=info_parts int_info
 refine wpList_append_own_at _ hgd s x 59 ho B 3 i0 (.int .i64 0) 1 8 Tryz.underlying59 hi hz0 hz1 hz2 rfl (by omega) v l.length (l.map (Value.int .i64)) hs (hown.alloc _)
  ⟨w0.heap.size,0,none⟩ ys.length ys.length (ys.map (Value.int .i64)) hx (by simp) (fun j u hu=>cell_lit_new w0 _ _ j u hu) (by intro u hu;rw[List.mem_map] at hu;obtain⟨y,-,rfl⟩:=hu;rfl) (by simp only[maxLen];omega) (by omega) (by simp;omega) ?_
 intro v' w' hown' hg _ hat
 have hg0:w0.grownBy w' v.ownBlock:=(World.grownBy_alloc w0 _ v.ownBlock).trans hg
 have hlt:=World.ownsRow.lt hown
 obtain⟨A',c',rfl,_,_⟩:=own_slice hown'
 refine h A' _ c' w' rfl (by unfold Own;simpa using hown') ((Below.refl _ _).grown hg0 hB (fun k hk=>(hlt k hk).1)) hg0 ?_
 rcases hat with e|e
 ·exact .inl e
 ·exact .inr ⟨_,e,by simp⟩
end
end Go.Proofs.YtlnbjikooadmoaaGreat
namespace Go.Proofs.YtlnbjikooadmoaaGreat
namespace Sn
open Go.RowKit Hd Bk Vi Rd
def nums (m:Mt):List Nat:=[m.a,m.s,m.r,m.c,m.f,m.e,m.l-m.e]
def ftN (l:List Mt):List Nat:=l.length::l.flatMap nums
def ftB (l:List Mt):ByteArray:=⟨((ftN l).flatMap putV).toArray⟩
def ints (l:List Nat):List Int:=l.map fun(n:Nat)=>(n:Int)
theorem ints_nv (l:List Nat):(ints l).map (Value.int .i64)=nv l:=by unfold ints nv;rw[List.map_map];rfl
theorem ints_append (a b:List Nat):ints (a++b)=ints a++ints b:=List.map_append ..
theorem length_ints (l:List Nat):(ints l).length=l.length:=List.length_map ..
theorem length_nums:∀(l:List Mt),(l.flatMap nums).length=l.length*7
 | []=>rfl
 |m::l=>by rw[List.flatMap_cons,List.length_append,length_nums l,List.length_cons];show 7+_=_;omega
theorem nums_take (l:List Mt) (k:Nat) (m:Mt) (h:l[k]? =some m):(l.take (k+1)).flatMap nums=(l.take k).flatMap nums++nums m:=by
 rw[List.take_add_one,h,List.flatMap_append];simp
set_option maxHeartbeats 6400000 in
set_option maxRecDepth 100000 in
theorem foot_any (A:Option Addr) (n c:Nat) (l:List Mt) (w:World) (hrd:Rd w w.heap.size 7 A n (fl7 l)) (hn:n<=100000) (ho:okBl l=true) :
  Calls Tryz.prog 41 #[.slice A n c] w fun e w'=>e=.returned (.tuple #[.string (ftB l),.int .i64 0])/\Below w.heap.size w w':=by
 have mixed:Tryz.prog.follows .mixedOrders=true:=by kernel_rfl
 have hln:=mt_len hrd
 have hbl:=blocks_any A n c l w hrd (by omega)
 rw[blE_yes ho] at hbl
 have HBL:=Lib.hid hbl
 obtain⟨hl0,hrow⟩:=okBl_row ho
 have HOK:=Lib.hid (rowM_mem l none hrow)
 have hn1:n<=1000:=by omega
 have HLN:=Lib.hid hln
 have HR:=Lib.hid hrd
 clear hbl hrd hln hl0 hrow ho
 go_enter Tryz.func41, Tryz.ntmps41
 go_wp2_with fail
 refine HBL.out.mono ?_
 rintro e1 w1 ⟨rfl,hb1⟩
 have HB1:=Lib.hid hb1
 have HW:=Lib.hid (World.ownsRow_lit (base:=w.heap.size) (e:=3) (size:=1) w1 #[.int .i64 (n:Int)] 1 hb1.size (by simp[maxLen]) rfl)
 have HB2:=Lib.hid (hb1.trans ((ext_alloc w1 (.cells #[.int .i64 (n:Int)] 3)).mono hb1.size))
 clear hb1 HBL
 go_wp2_with fail
 go_loopw [5,18] (fun s5 s18 wr=>∃(k:Nat) (A1:Option Addr) (n1 c1:Nat),s18=.int .i64 (k:Int)/\s5=.slice A1 n1 c1/\k<=n/\Hid (Own wr w.heap.size (.slice A1 n1 c1) (ints (n::(l.take k).flatMap nums))/\Below w.heap.size w wr)) (fun _ v _=>n-(intOf v).toNat)
 case atStart=>exact⟨0,_,_,_,by go_num,rfl,by omega,Lib.hid ⟨HW.out,HB2.out⟩⟩
 case round =>
  obtain⟨k,A5,n5,c5,rfl,rfl,hk,HX⟩:=hrel
  by_cases hkn:k<n
  ·obtain⟨ad,m,hA,hbk,hx,hc0,hc1,hc2,hc3,hc4,hc5,hc6⟩:=mt_at (HR.out.below HX.out.2) hkn
   have hok:=(okM_iff m).1 (HOK.out m (List.mem_of_getElem? hx))
   have HNT:=Lib.hid (nums_take l k m hx)
   obtain⟨ma,ms,mr,mc,mf,me,ml⟩:=m
   dsimp only at hok
   obtain⟨d,hd⟩:∃d,ml-me=d:=⟨_,rfl⟩
   have hs:IntKind.i64.wrap ((ml:Int)-(me:Int))=(d:Int):=by rw[IntKind.wrap_i64];omega
   have HD:=Lib.hid (show nums ⟨ma,ms,mr,mc,mf,me,ml⟩=[ma,ms,mr,mc,mf,me,d] by unfold nums;rw[hd])
   have hown:Own (wr.alloc (.cells #[.int .i64 (ma:Int),.int .i64 (ms:Int),.int .i64 (mr:Int),.int .i64 (mc:Int),.int .i64 (mf:Int),.int .i64 (me:Int),.int .i64 (ml:Int)] 39)) w.heap.size (.slice A5 n5 c5) (ints (n::(l.take k).flatMap nums)):=HX.out.1.below (ext_alloc wr _) (Nat.le_refl _)
   have HO:=Lib.hid hown
   have HLE:=Lib.hid (show(ints (n::(l.take k).flatMap nums)).length<=1099511627776 by rw[length_ints,List.length_cons,length_nums,List.length_take];omega)
   have HB3:=Lib.hid (HX.out.2.trans ((ext_alloc wr (.cells #[.int .i64 (ma:Int),.int .i64 (ms:Int),.int .i64 (mr:Int),.int .i64 (mc:Int),.int .i64 (mf:Int),.int .i64 (me:Int),.int .i64 (ml:Int)] 39)).mono HX.out.2.size))
   subst hA
   clear hown hx hd hok HX hbk
   go_wp2_with (at_builtin;go_loud (refine appendL (g:=wr.heap.size+1) [ma,ms,mr,mc,mf,me,d] (by simp) rfl HO.out HLE.out (by simp) (by simp) HB3.out.size ?_;intro A1 n1 c1 w3 hn1 hown1 hb1 hg1 hat1))
   have HF:=Lib.hid (show ints (n::(l.take (k+1)).flatMap nums)=ints (n::(l.take k).flatMap nums)++[(ma:Int),(ms:Int),(mr:Int),(mc:Int),(mf:Int),(me:Int),(d:Int)] by
    rw[HNT.out,HD.out,<-List.cons_append,ints_append];rfl)
   go_roundw
   case rel=>exact⟨k+1,A1,n1,c1,by go_num,rfl,by omega,Lib.hid ⟨by rw[HF.out];exact hown1,HB3.out.trans hb1⟩⟩
   case measure=>simp[intOf];omega
  ·obtain rfl:k=n:=by omega
   have h9:=HX.out
   rw[List.take_of_length_le (by rw[HLN.out];omega)] at h9
   have hrd:Rd wr wr.heap.size 1 A5 n5 (nv (ftN l)):=by
    obtain⟨h,h2⟩:=h9.1.rd0
    rw[<-h2,ints_nv,show k::l.flatMap nums=ftN l by unfold ftN;rw[HLN.out]] at h
    exact h
   have hn5:n5<=7001:=by
    obtain⟨-,h2⟩:=h9.1.rd0
    rw[length_ints,List.length_cons,length_nums,HLN.out] at h2
    omega
   have hall:∀x∈ftN l,x<9223372036854775808:=by
    intro x hx
    unfold ftN at hx
    rcases List.mem_cons.1 hx with rfl|hx
    ·rw[HLN.out];omega
    ·obtain⟨m,hm,hx⟩:=List.mem_flatMap.1 hx
     have:=(okM_iff m).1 (HOK.out m hm)
     simp only[nums,List.mem_cons,List.not_mem_nil,or_false] at hx
     omega
   have HN:=Lib.hid (numbers_any A5 n5 c5 (ftN l) wr hrd (by omega) hall)
   have HB2:=Lib.hid h9.2
   clear h9 HX hrd hall hn5
   go_wp2_with fail
   refine HN.out.mono ?_
   rintro e5 w5 ⟨rfl,hb5⟩
   have HB5:=Lib.hid (HB2.out.trans (hb5.mono HB2.out.size))
   clear hb5
   go_wp2_with fail
   go_ret2
   exact⟨rfl,HB5.out⟩
end Sn
end Go.Proofs.YtlnbjikooadmoaaGreat
namespace Go.Proofs.YtlnbjikooadmoaaGreat
namespace Dk
open Go.RowKit Hd Fm Sn Bk Rd
def endM (H:Nat) (l:List Mt):Nat:=match l.getLast? with
 |none=>H
 |some m=>m.a+m.s
set_option maxHeartbeats 3200000 in
set_option maxRecDepth 100000 in
theorem End_ok (A:Option Addr) (n c:Nat) (i g f:Nat) (l:List Mt) (w:World) (hh:1<=i/\i<=999999/\1<=g/\g<=999999/\1<=f/\f<=1000000000) (hrd:Rd w w.heap.size 7 A n (fl7 l)) (hn:n<=100000) (ho:okBl l=true) :
  Calls Tryz.prog 9 #[.agg #[.int .i64 (i:Int),.int .i64 (g:Int),.int .i64 (f:Int)],.slice A n c] w fun e w'=>e=.returned (.tuple #[.int .i64 (endM (hdrB i g f).size l:Int),.int .i64 0])/\Below w.heap.size w w':=by
 have hbs:=hb_size i g f hh
 have hsz:(hdrB i g f).size=(hb i g f).size+9:=size_frB 1 (hb i g f)
 have HP:=Lib.hid (fun w=>hput_yes i g f w hh)
 have HB:=Lib.hid (fun wx (hx:Below w.heap.size w wx)=>blocks_any A n c l wx (hrd.ext hx) (by omega))
 have hl:=mt_len hrd
 rw[blE_yes ho] at HB
 have B2:=ext_alloc w (.cells #[.int .i64 (i:Int),.int .i64 (g:Int),.int .i64 (f:Int)] 33)
 unfold endM
 rcases hg:l.getLast? with _|m
 ·have hl0:l=[]:=List.getLast?_eq_none_iff.1 hg
  subst hl0
  simp only[List.length_nil] at hl
  subst hl
  dsimp only
  have HL:=Lib.hid (fun wx=>last_nil A c wx)
  unfold magg at HL
  have HZ:=Lib.hid (fun wx=>fsize_any (hb i g f) wx (by omega))
  rw[<-hsz] at HZ
  generalize hb i g f=H at *
  generalize (hdrB i g f).size=Z at *
  clear hrd ho hh hbs hsz hg
  go_enter Tryz.func9, Tryz.ntmps9
  go_wp2_with (first
   |(go_at_call 32;refine(HP.out _).mono ?_;rintro e1 w1 ⟨rfl,hb1⟩;have HW1:=Lib.hid (B2.trans (hb1.mono B2.size));clear hb1 B2)
   |(go_at_call 33;refine(HB.out _ HW1.out).mono ?_;rintro e2 w2 ⟨rfl,hb2⟩;have HW2:=Lib.hid (HW1.out.trans (hb2.mono HW1.out.size));clear hb2)
   |(go_at_call 34;refine(HL.out _).mono ?_;rintro e3 w3 ⟨rfl,hb3⟩;have HW3:=Lib.hid (HW2.out.trans (hb3.mono HW2.out.size));clear hb3)
   |(go_at_call 35;refine(HZ.out _).mono ?_;rintro e4 w4 ⟨rfl,rfl⟩))
  go_ret2
  exact⟨rfl,HW3.out.trans ((ext_alloc w3 _).mono HW3.out.size)⟩
 ·dsimp only
  have hn0:0<n:=by
   rcases l with _|⟨x,l⟩
   ·cases hg
   ·simp at hl;omega
  have hok:okM m=true:=by
   obtain⟨-,hr⟩:=okBl_row ho
   exact rowM_mem l none hr m (List.mem_of_getLast? hg)
  rw[okM_iff] at hok
  have HL:=Lib.hid (fun wx (hx:Below w.heap.size w wx)=>last_ok A n c l m wx (hrd.ext hx) hn0 hn hg ho)
  obtain⟨ma,ms,mr,mc,mf,me,ml⟩:=m
  unfold mv magg at HL
  dsimp only at HL hok ⊢
  have hw:wrap64 ((ma:Int)+(ms:Int))=(ma:Int)+(ms:Int):=by unfold wrap64;omega
  have he:((ma+ms:Nat):Int)=(ma:Int)+(ms:Int):=by omega
  rw[he]
  generalize hb i g f=H at *
  clear hrd ho hh hbs hsz hg hok he hl
  go_enter Tryz.func9, Tryz.ntmps9
  go_wp2_with (first
   |(go_at_call 32;refine(HP.out _).mono ?_;rintro e1 w1 ⟨rfl,hb1⟩;have HW1:=Lib.hid (B2.trans (hb1.mono B2.size));clear hb1 B2)
   |(go_at_call 33;refine(HB.out _ HW1.out).mono ?_;rintro e2 w2 ⟨rfl,hb2⟩;have HW2:=Lib.hid (HW1.out.trans (hb2.mono HW1.out.size));clear hb2)
   |(go_at_call 34;refine(HL.out _ HW2.out).mono ?_;rintro e3 w3 ⟨rfl,hb3⟩;have HW3:=Lib.hid (HW2.out.trans (hb3.mono HW2.out.size));clear hb3))
  go_ret2
  refine⟨?_,HW3.out.trans ((ext_alloc w3 _).mono HW3.out.size)⟩
  show Ending.returned (.tuple #[.int .i64 (wrap64 ((ma:Int)+(ms:Int))),.int .i64 0])=_
  rw[hw]
end Dk
end Go.Proofs.YtlnbjikooadmoaaGreat
namespace Go.Proofs.YtlnbjikooadmoaaGreat
namespace Dk
open Go.RowKit Hd Fm Sn Bk Rd
def putD (b:Nat) (p:ByteArray×ByteArray) (F:ByteArray) (D:DS):DS:=setF b (p.1,p.2++F) (tick D)
def syncD (b:Nat) (T:ByteArray) (D:DS):DS:=setF b (T,T) (tick D)
section
variable {w w':World} {S:Nat->Prop} {bd gN gS:Nat} {v:Value} {D:DS}
set_option maxHeartbeats 1600000 in
theorem seal1_go (h:DiskAt w S bd D) {bS bB:Nat} {i g f:Int} {s body:ByteArray} (hS:Blk w bS (sgc bd i g f s) 77) (hB:Blk w bB #[.string body] 9) {b:Nat} {p:ByteArray×ByteArray} (ho:D.off=false) (hl:lk s D.now=some b) (hp:D.fl b=some p) (hb:body.size<=60000)
  (h1:p.2.size+(body.size+9)<=1000000) (h2:(body.size:Int)+9+(usedD D:Int)<=D.cap) :
  Calls Tryz.prog 86 #[.pointer (some ⟨bS,0,none⟩),.pointer (some ⟨bB,0,none⟩)] w fun e w'=>e=.returned (.int .i64 (opE D))/\ ∃S',DiskAt w' S' bd (opS false (setF b (p.1,p.2++frB 3 body)) D)/\Gr S w S' w':=by
 have HC:=Lib.hid (sput_go (k:=3) h (i:=i) (g:=g) (f:=f) ho hl hp (by decide) hb h1 h2)
 rw[show((3:UInt8).toNat:Int)=3 from rfl] at HC
 unfold sgc at *
 have k0:=hS.cell 0 (v:=.pointer (some ⟨bd,0,none⟩)) rfl
 have k1:=hS.cell 1 (v:=.int .i64 i) rfl
 have k2:=hS.cell 2 (v:=.int .i64 g) rfl
 have k3:=hS.cell 3 (v:=.int .i64 f) rfl
 have k4:=hS.cell 4 (v:=.string s) rfl
 have b0:=hB.cell 0 (v:=.string body) rfl
 clear h hS hB ho hl hp hb h1 h2
 go_enter Tryz.func86, Tryz.ntmps86
 go_wp2_with (go_at_call 37;refine HC.out.mono ?_;rintro e5 w5 ⟨rfl,S5,hD5,hG5⟩;have HD5:=Lib.hid hD5;have HG5:=Lib.hid hG5;clear hD5 hG5)
 go_ret
 exact⟨rfl,S5,HD5.out,HG5.out⟩
set_option maxHeartbeats 1600000 in
theorem seal_all (h:DiskAt w S bd D) (hc:Calm D) {bS bB gF:Nat} {i g f:Int} {s body:ByteArray} (hS:Blk w bS (sgc bd i g f s) 77) (hB:Blk w bB #[.string body] 9)
  (hF:Blk w gF #[.func (.func 86) #[] #[.pointer (some ⟨bS,0,none⟩),.pointer (some ⟨bB,0,none⟩)],.func (.func 53) #[.agg (sgc bd i g f s)] #[]] 57)
  (nS: ¬ S bS) (nB: ¬ S bB) (nF: ¬ S gF) {b:Nat} {p:ByteArray×ByteArray} (hl:lk s D.now=some b) (hp:D.fl b=some p) (hb:body.size<=60000) (h1:p.2.size+(body.size+9)<=1000000) (h2:(body.size:Int)+9+(usedD D:Int)<=D.cap) :
  Calls Tryz.prog 47 #[.slice (some ⟨gF,0,none⟩) 2 2] w fun e w'=>e=.returned (.int .i64 0)/\ ∃S',DiskAt w' S' bd (syncD b (p.2++frB 3 body) (putD b p (frB 3 body) D))/\Gr S w S' w':=by
 let R:Nat->DS->Prop:=fun k D'=>match k with
  |0=>D'=D
  |1=>D'=putD b p (frB 3 body) D
  |_=>D'=syncD b (p.2++frB 3 body) (putD b p (frB 3 body) D)
 refine(all_any [(86,#[],#[.pointer (some ⟨bS,0,none⟩),.pointer (some ⟨bB,0,none⟩)]),(53,#[.agg (sgc bd i g f s)],#[])]
  (some ⟨gF,0,none⟩) 2 2 w (fun k wx=>∃S' D',Gr S w S' wx/\DiskAt wx S' bd D'/\R k D') (fun _ _=>False) (by omega) ?_ ⟨S,D,Gr.refl _ _,h,rfl⟩ ?_ ?_).mono ?_
 ·rintro k wx ⟨S',D',g1,-⟩
  exact rd_blk (g1.blk hF nF)
 ·intro f' hf'
  simp only[List.mem_cons,List.not_mem_nil,or_false] at hf'
  rcases hf' with rfl|rfl
  ·exact enters_of Tryz.func86 (by kernel_rfl) rfl
  ·exact enters_of Tryz.func53 (by kernel_rfl) rfl
 ·intro k f' hf' wx hJ
  obtain⟨S',D',g1,hD,hR⟩:=hJ
  rcases k with _|_|k
  ·simp only[List.getElem?_cons_zero,Option.some.injEq] at hf'
   subst hf'
   obtain rfl:D'=D:=hR
   refine(seal1_go hD (g1.blk hS nS) (g1.blk hB nB) hc.off hl hp hb h1 h2).mono ?_
   rintro e w2 ⟨rfl,S2,hD2,g2⟩
   refine⟨0,by rw[hc.e],.inl ⟨rfl,S2,_,g1.trans g2,hD2,?_⟩⟩
   rw[opS_calm hc];rfl
  ·simp only[List.getElem?_cons_succ,List.getElem?_cons_zero,Option.some.injEq] at hf'
   subst hf'
   obtain rfl:D'=putD b p (frB 3 body) D:=hR
   have c1:Calm (putD b p (frB 3 body) D):=hc.tick.setF b _
   refine(ssync_go hD (b:=b) (p:=(p.1,p.2++frB 3 body)) c1.off hl (by show(if b=b then _ else _)=_;rw[if_pos rfl])).mono ?_
   rintro e w2 ⟨rfl,S2,hD2,g2⟩
   refine⟨0,by rw[c1.e],.inl ⟨rfl,S2,_,g1.trans g2,hD2,?_⟩⟩
   rw[opS_calm c1];rfl
  ·simp at hf'
 ·rintro e w' ⟨x,rfl,⟨rfl,S',D',g1,hD,hR⟩|⟨-,hF⟩⟩
  ·obtain rfl:D'=syncD b (p.2++frB 3 body) (putD b p (frB 3 body) D):=hR
   exact⟨rfl,S',hD,g1⟩
  ·exact hF.elim
set_option maxHeartbeats 3200000 in
set_option maxRecDepth 100000 in
theorem seal_go (h:DiskAt w S bd D) (hc:Calm D) {i g f:Nat} {s:ByteArray} {A:Option Addr} {n c:Nat} {l:List Mt} (hh:1<=i/\i<=999999/\1<=g/\g<=999999/\1<=f/\f<=1000000000) (hrd:Rd w w.heap.size 7 A n (fl7 l)) (hn:n<=100000) (ho:okBl l=true)
  {b:Nat} {p:ByteArray×ByteArray} (hl:lk s D.now=some b) (hp:D.fl b=some p) (hb:(ftB l).size<=60000) (h1:p.2.size+((ftB l).size+9)<=1000000) (h2:((ftB l).size:Int)+9+(usedD D:Int)<=D.cap) (he:endM (hdrB i g f).size l<=2000000) :
  Calls Tryz.prog 38 #[.agg (sgc bd i g f s),.slice A n c] w fun e w'=>e=.returned (.tuple #[.int .i64 ((endM (hdrB i g f).size l+((ftB l).size+9):Nat):Int),.int .i64 0])/\ ∃S',DiskAt w' S' bd (syncD b (p.2++frB 3 (ftB l)) (putD b p (frB 3 (ftB l)) D))/\Gr S w S' w':=by
 have HF:=Lib.hid (fun wx (hx:Below w.heap.size w wx)=>foot_any A n c l wx (hrd.ext hx) hn ho)
 have HE:=Lib.hid (fun wx (hx:Below w.heap.size w wx)=>End_ok A n c i g f l wx hh (hrd.ext hx) hn ho)
 have HZ:=Lib.hid (fun wx=>fsize_any (ftB l) wx (by omega))
 have nlt:∀k,w.heap.size<=k-> ¬ S k:=fun k hk=>h.gt hk
 have HA:=Lib.hid (show ∀(bB:Nat) w1 w3,Below w.heap.size w w1->Blk w1 w.heap.size (sgc bd i g f s) 77->Blk w1 bB #[.string (ftB l)] 9->w.heap.size<=bB ->
   w3=w1.alloc (.cells #[.func (.func 86) #[] #[.pointer (some ⟨w.heap.size,0,none⟩),.pointer (some ⟨bB,0,none⟩)],.func (.func 53) #[.agg (sgc bd i g f s)] #[]] 57) ->
   Calls Tryz.prog 47 #[.slice (some ⟨w1.heap.size,0,none⟩) 2 2] w3 fun e w'=>e=.returned (.int .i64 0)/\ ∃S',DiskAt w' S' bd (syncD b (p.2++frB 3 (ftB l)) (putD b p (frB 3 (ftB l)) D))/\Gr S w S' w'/\Blk w' bB #[.string (ftB l)] 9 from by
  rintro bB w1 w3 hb1 hS hB hbB rfl
  have e2:=ext_alloc w1 (.cells #[.func (.func 86) #[] #[.pointer (some ⟨w.heap.size,0,none⟩),.pointer (some ⟨bB,0,none⟩)],.func (.func 53) #[.agg (sgc bd i g f s)] #[]] 57)
  have e3:=hb1.trans (e2.mono hb1.size)
  refine(seal_all (h.ext e3) hc (hS.ext e2) (hB.ext e2) (Blk.new w1 _ _) (nlt _ (Nat.le_refl _)) (nlt _ hbB) (nlt _ hb1.size) hl hp hb h1 h2).mono ?_
  rintro e w' ⟨rfl,S',q2,q3⟩
  exact⟨rfl,S',q2,(Gr.of_below e3).trans q3,q3.blk (hB.ext e2) (nlt _ hbB)⟩)
 have hw:wrap64 ((endM (hdrB i g f).size l:Int)+(((ftB l).size+9:Nat):Int))=((endM (hdrB i g f).size l+((ftB l).size+9):Nat):Int):=by unfold wrap64;omega
 clear h hc hh hl hp hrd hn ho hb h1 h2 he nlt
 unfold sgc at *
 have B0:=Blk.new w #[.pointer (some ⟨bd,0,none⟩),.int .i64 i,.int .i64 g,.int .i64 f,.string s] 77
 have B2:=ext_alloc w (.cells #[.pointer (some ⟨bd,0,none⟩),.int .i64 i,.int .i64 g,.int .i64 f,.string s] 77)
 generalize ftB l=B at *
 generalize endM (hdrB i g f).size l=E at *
 go_enter Tryz.func38, Tryz.ntmps38
 go_wp2_with (first
  |(go_at_call 41;refine(HF.out _ B2).mono ?_;rintro e1 w1 ⟨rfl,hb1⟩;have HW1:=Lib.hid ((B2.trans (hb1.mono B2.size)).trans ((ext_alloc w1 (.cells #[.string B] 9)).mono (B2.trans (hb1.mono B2.size)).size));have HB1:=Lib.hid ((B0.ext hb1).alloc (.cells #[.string B] 9));have HF1:=Lib.hid (Blk.new w1 #[.string B] 9);have HG1:=Lib.hid (show w.heap.size<=w1.heap.size from(B2.trans (hb1.mono B2.size)).size);clear hb1 B0 B2;have k1:=HB1.out.cell 1 (v:=.int .i64 i) rfl;have k2:=HB1.out.cell 2 (v:=.int .i64 g) rfl;have k3:=HB1.out.cell 3 (v:=.int .i64 f) rfl)
  |(go_at_call 9;refine(HE.out _ HW1.out).mono ?_;rintro e2 w2 ⟨rfl,hb2⟩;have HW2:=Lib.hid (HW1.out.trans (hb2.mono HW1.out.size));have HB2:=Lib.hid (HB1.out.ext hb2);have HF2:=Lib.hid (HF1.out.ext hb2);clear hb2 k1 k2 k3)
  |(refine wpList_load_row rfl 77 (.tmp 2) rfl w.heap.size #[.pointer (some ⟨bd,0,none⟩),.int .i64 i,.int .i64 g,.int .i64 f,.string s] _ (by simp[go_sem,Act.eval]) HB2.out Tryz.underlying77 rfl sg_info ?_)
  |(go_at_call 47;refine(HA.out w1.heap.size _ _ HW2.out HB2.out HF2.out HG1.out rfl).mono ?_;rintro e5 w5 ⟨rfl,S5,hD5,hG5,hB5⟩;have HD5:=Lib.hid (And.intro hD5 hG5);have z0:=hB5.cell 0 (v:=.string B) rfl;clear hD5 hG5 hB5)
  |(go_at_call 35;refine(HZ.out _).mono ?_;rintro e6 w6 ⟨rfl,rfl⟩))
 go_ret2
 refine⟨?_,S5,HD5.out⟩
 exact congrArg (fun x=>Ending.returned (.tuple #[.int .i64 x,.int .i64 0])) hw
set_option maxHeartbeats 3200000 in
set_option maxRecDepth 100000 in
theorem Seal_go (h:DiskAt w S bd D) (hc:Calm D) {i g f:Nat} {A:Option Addr} {n c:Nat} {l:List Mt} (hh:1<=i/\i<=999999/\1<=g/\g<=999999/\1<=f/\f<=1000000000) (hrd:Rd w w.heap.size 7 A n (fl7 l)) (hn:n<=100000) (ho:okBl l=true)
  {b:Nat} {p:ByteArray×ByteArray} (hl:lk (segN i g) D.now=some b) (hp:D.fl b=some p) (hb:(ftB l).size<=60000) (h1:p.2.size+((ftB l).size+9)<=1000000) (h2:((ftB l).size:Int)+9+(usedD D:Int)<=D.cap) (he:endM (hdrB i g f).size l<=2000000) :
  Calls Tryz.prog 11 #[.pointer (some ⟨bd,0,none⟩),.agg #[.int .i64 (i:Int),.int .i64 (g:Int),.int .i64 (f:Int)],.slice A n c] w fun e w'=>e=.returned (.tuple #[.int .i64 ((endM (hdrB i g f).size l+((ftB l).size+9):Nat):Int),.int .i64 0])/\ ∃S',DiskAt w' S' bd (syncD b (p.2++frB 3 (ftB l)) (putD b p (frB 3 (ftB l)) D))/\Gr S w S' w':=by
 have HO:=Lib.hid (fun w=>of_ok (bd:=bd) (i:Int) (g:Int) (f:Int) w (by simp only[okH,decide_eq_true_eq];omega))
 have HC:=Lib.hid (fun(wx:World) (hx:Below w.heap.size w wx)=>seal_go (h.ext hx) hc (c:=c) hh (hrd.ext hx) hn ho hl hp hb h1 h2 he)
 clear h hc hh hl hp hrd hn ho hb h1 h2 he
 unfold sgc at *
 generalize segN i g=s at *
 generalize ((endM (hdrB i g f).size l+((ftB l).size+9):Nat):Int)=E at *
 have B2:=ext_alloc w (.cells #[.int .i64 (i:Int),.int .i64 (g:Int),.int .i64 (f:Int)] 33)
 go_enter Tryz.func11, Tryz.ntmps11
 go_wp2_with (first
  |(go_at_call 30;refine(HO.out _).mono ?_;rintro e1 w1 ⟨rfl,hb1⟩;have HW1:=Lib.hid (B2.trans (hb1.mono B2.size));clear hb1 B2;have HW2:=Lib.hid (HW1.out.trans ((ext_alloc w1 (.cells #[.pointer (some ⟨bd,0,none⟩),.int .i64 i,.int .i64 g,.int .i64 f,.string s] 77)).mono HW1.out.size)))
  |(go_at_call 38;refine(HC.out _ HW2.out).mono ?_;rintro e5 w5 ⟨rfl,S5,hD5,hG5⟩;have HD5:=Lib.hid (And.intro hD5 hG5);clear hD5 hG5))
 go_ret2
 exact⟨rfl,S5,HD5.out.1,(Gr.of_below HW2.out).trans HD5.out.2⟩
end
end Dk
end Go.Proofs.YtlnbjikooadmoaaGreat
namespace Go.Proofs.YtlnbjikooadmoaaGreat
namespace Sn
open Go.RowKit Bk
theorem mt_info:(Tryz.prog.info? 39).map (fun i=>(i.zero,i.size,i.bytes))=some (some (magg 0 0 0 0 0 0 0),7,56):=by kernel_rfl
def OwnM (w:World) (B:Nat) (v:Value) (l:List Mt):Prop:=w.ownsRow B 39 7 v l.length (fl7 l)
section
variable {w w':World} {B C:Nat} {v:Value} {l:List Mt}
theorem OwnM.below (h:OwnM w B v l) (hb:Below C w w') (hC:w.heap.size<=C):OwnM w' B v l:=own_below h hb hC
theorem OwnM.lower (h:OwnM w B v l) (hC:C<=B):OwnM w C v l:=own_lower h hC
theorem OwnM.rd (h:OwnM w B v l):∃A c,v=.slice A l.length c/\l.length<=c/\c<=maxLen/\Rd w w.heap.size 7 A l.length (fl7 l):=by
 obtain⟨A,c,rfl,h1,h2⟩:=own_slice h
 exact⟨A,c,rfl,h1,h2,Rd.of_own h⟩
theorem ownM_nil (w:World) (B:Nat):OwnM w B (.slice none 0 0) []:=World.ownsRow_nil _ _ _ _
end
theorem step_append7 {ops:Array Oper} {o:Oper} {a:Act} {K:Act->World->Prop} {Q:Exit->Act->World->Prop} {E:Prop} {w0:World} {B:Nat} {v:Value} {l:List Mt} (s x:Operand) (m:Mt)
  (hgd:o.guard=none) (ho:o.op=.call { callee:=.builtin .append,args:=#[s,x],argTypes:=#[35,35] })
  (hown:OwnM w0 B v l) (hl:l.length<=1000000) (hB:B<=w0.heap.size) (hs:a.eval s=v) (hx:a.eval x=.slice (some ⟨w0.heap.size,0,none⟩) 1 1)
  (h:∀g cap w',OwnM w' B (.slice (some ⟨g,0,none⟩) (l.length+1) cap) (l++[m])->w0.grownBy w' v.ownBlock->(v.ownBlock=some g∨w0.heap.size<=g)->K (a.put o.dst (.slice (some ⟨g,0,none⟩) (l.length+1) cap)) w') :
  if Region.wanted o (yielded ops a.tmps)=true then Oper.wp Tryz.prog o a ((w0.alloc (.cells #[.int .i64 (m.a:Int),.int .i64 (m.s:Int),.int .i64 (m.r:Int),.int .i64 (m.c:Int),.int .i64 (m.f:Int),.int .i64 (m.e:Int),.int .i64 (m.l:Int)] 39)).drew) K Q else E:=by
 obtain⟨i0,hi,hz0,hz1,hz2⟩:=info_parts mt_info
 refine step_append_lies ((w0.alloc (.cells #[.int .i64 (m.a:Int),.int .i64 (m.s:Int),.int .i64 (m.r:Int),.int .i64 (m.c:Int),.int .i64 (m.f:Int),.int .i64 (m.e:Int),.int .i64 (m.l:Int)] 39)).drew) hgd s x 35 ho B 39 i0 (magg 0 0 0 0 0 0 0) 7 56 Tryz.underlying35 hi hz0 hz1 hz2 rfl (by omega) v l.length (fl7 l) hs (World.ownsRow.alloc hown _)
  ⟨w0.heap.size,0,none⟩ 1 1 (cl7 m) hx rfl ?_ (by intro u hu;exact fl7_one [m] u (by simpa[fl7] using hu)) (by omega) (by simp only[maxLen];omega) (by omega) (Nat.le_trans hB (by simp)) _ rfl ?_
 ·intro j u hu
  rw[Addr.add_lit,Nat.zero_add]
  show(w0.alloc _).cell? _=_
  rw[World.cell?_alloc_new]
  simpa[cl7] using hu
 intro g cap w' hown' hg hat hlt
 have hg0:w0.grownBy (w0.alloc (.cells #[.int .i64 (m.a:Int),.int .i64 (m.s:Int),.int .i64 (m.r:Int),.int .i64 (m.c:Int),.int .i64 (m.f:Int),.int .i64 (m.e:Int),.int .i64 (m.l:Int)] 39)).drew v.ownBlock:=have h:=World.grownBy_alloc w0 (.cells #[.int .i64 (m.a:Int),.int .i64 (m.s:Int),.int .i64 (m.r:Int),.int .i64 (m.c:Int),.int .i64 (m.f:Int),.int .i64 (m.e:Int),.int .i64 (m.l:Int)] 39) v.ownBlock;⟨h.os,h.tape,h.output,h.size,h.block⟩
 refine h g cap w' ?_ (hg0.trans hg) ?_
 ·unfold OwnM;rw[fl7_append,List.length_append,show fl7 [m]=cl7 m from List.append_nil _];exact hown'
 ·rcases hat with e|e
  ·exact .inl e
  ·exact .inr (by rw[e];simp)
end Sn
end Go.Proofs.YtlnbjikooadmoaaGreat
namespace Go.Proofs.YtlnbjikooadmoaaGreat
namespace Sn
open Go.RowKit Hd Fm Bk
theorem blocks_one (m:Mt) (w:World):Calls Tryz.prog 33 #[.slice (some ⟨w.heap.size,0,none⟩) 1 1] (w.alloc (.cells #[.int .i64 (m.a:Int),.int .i64 (m.s:Int),.int .i64 (m.r:Int),.int .i64 (m.c:Int),.int .i64 (m.f:Int),.int .i64 (m.e:Int),.int .i64 (m.l:Int)] 39))
  fun e w'=>e=.returned (.int .i64 (if okM m=true then 0 else 211))/\Below w.heap.size w w':=by
 have hrd:Rd (w.alloc (.cells #[.int .i64 (m.a:Int),.int .i64 (m.s:Int),.int .i64 (m.r:Int),.int .i64 (m.c:Int),.int .i64 (m.f:Int),.int .i64 (m.e:Int),.int .i64 (m.l:Int)] 39)) (w.alloc (.cells #[.int .i64 (m.a:Int),.int .i64 (m.s:Int),.int .i64 (m.r:Int),.int .i64 (m.c:Int),.int .i64 (m.f:Int),.int .i64 (m.e:Int),.int .i64 (m.l:Int)] 39)).heap.size 7 (some ⟨w.heap.size,0,none⟩) 1 (fl7 [m]) :=
  Rd.of_own (World.ownsRow_lit (base:=w.heap.size) (e:=39) (size:=7) w #[.int .i64 (m.a:Int),.int .i64 (m.s:Int),.int .i64 (m.r:Int),.int .i64 (m.c:Int),.int .i64 (m.f:Int),.int .i64 (m.e:Int),.int .i64 (m.l:Int)] 1 (Nat.le_refl _) (by simp[maxLen]) rfl)
 refine(blocks_any _ 1 1 [m] _ hrd (by omega)).mono fun e w' ⟨he,hb⟩=>⟨?_,(ext_alloc w _).trans (hb.mono (ext_alloc w _).size)⟩
 rw[he]
 unfold blE okBl
 simp[rowM]
structure Kp (w:World) (b4 b3 b10:Nat) (i g f:Int) (A:Option Addr) (n c late:Nat) (l:List Mt):Prop where
 row:Var w b4 35 (.slice A n c)
 hd:w.heap[b3]? =some (.cells #[.int .i64 i,.int .i64 g,.int .i64 f] 33 (0,0))
 lt:Var w b10 3 (.int .i64 (late:Int))
 rd:Rd w w.heap.size 7 A n (fl7 l)
section
variable {w:World} {b4 b3 b10:Nat} {i g f:Int} {A:Option Addr} {n c late:Nat} {l:List Mt} (h:Kp w b4 b3 b10 i g f A n c late l)
include h
theorem Kp.h0:w.cell? ⟨b3,0,none⟩=some (.int .i64 i):=by rw[cell_of_row w b3 0 _ _ (0,0) h.hd];rfl
theorem Kp.h1:w.cell? ⟨b3,1,none⟩=some (.int .i64 g):=by rw[cell_of_row w b3 1 _ _ (0,0) h.hd];rfl
theorem Kp.h2:w.cell? ⟨b3,2,none⟩=some (.int .i64 f):=by rw[cell_of_row w b3 2 _ _ (0,0) h.hd];rfl
theorem Kp.ht:b3<w.heap.size:=(Array.getElem?_eq_some_iff.1 h.hd).1
theorem Kp.ext {w':World} (hb:Below w.heap.size w w'):Kp w' b4 b3 b10 i g f A n c late l :=
 ⟨h.row.below hb h.row.lt,(hb.block b3 h.ht).trans h.hd,h.lt.below hb h.lt.lt,h.rd.ext hb⟩
end
set_option maxHeartbeats 6400000 in
set_option maxRecDepth 100000 in
theorem goes_any (m:Mt) (b4 b3 b10:Nat) (i g f:Int) (h1:Nat) (A:Option Addr) (n c:Nat) (l:List Mt) (w:World) (hf:f=h1) (ho:okBl l=true) (hk:Kp w b4 b3 b10 i g f A n c (lateM l) l) :
  Calls Tryz.prog 89 #[mv m,.pointer (some ⟨b4,0,none⟩),.pointer (some ⟨b3,0,none⟩),.pointer (some ⟨b10,0,none⟩)] w fun e w'=>e=.returned (.bool (goesB h1 l m))/\Below w.heap.size w w':=by
 have mixed:Tryz.prog.follows .mixedOrders=true:=by kernel_rfl
 have hln:=mt_len hk.rd
 obtain⟨hl0,-⟩:=okBl_row ho
 have hgo:goesB h1 l m=true↔(l.length<1000/\m.f=nextM h1 l/\lateM l<=m.e)/\okM m=true:=by unfold goesB;rw[Bool.and_eq_true,decide_eq_true_eq]
 have HB:=Lib.hid (ext_alloc w (.cells #[.int .i64 m.a,.int .i64 m.s,.int .i64 m.r,.int .i64 m.c,.int .i64 m.f,.int .i64 m.e,.int .i64 m.l] 39))
 have HM:=Lib.hid (show Mb (w.alloc (.cells #[.int .i64 m.a,.int .i64 m.s,.int .i64 m.r,.int .i64 m.c,.int .i64 m.f,.int .i64 m.e,.int .i64 m.l] 39)) w.heap.size m.a m.s m.r m.c m.f m.e m.l from heap_alloc_new w _)
 have HK:=Lib.hid (hk.ext (ext_alloc w (.cells #[.int .i64 m.a,.int .i64 m.s,.int .i64 m.r,.int .i64 m.c,.int .i64 m.f,.int .i64 m.e,.int .i64 m.l] 39)))
 have HNX:=Lib.hid (fun w hr=>next_any A n c i g f h1 l w hr (by omega) ho hf)
 have HB1:=Lib.hid (fun w=>blocks_one m w)
 unfold hv at HNX
 generalize hG:goesB h1 l m=r at *
 have HR:=Lib.hid hgo
 generalize nextM h1 l=X at *
 generalize lateM l=T at *
 rw[hln] at HR hl0
 clear hgo hk ho hf hG hln
 obtain⟨ma,ms,mr,mc,mf,me,ml⟩:=m
 unfold mv magg
 dsimp only at *
 go_enter Tryz.func89, Tryz.ntmps89
 go_wp2_with fail
 generalize w.alloc (.cells #[.int .i64 ma,.int .i64 ms,.int .i64 mr,.int .i64 mc,.int .i64 mf,.int .i64 me,.int .i64 ml] 39)=w2 at *
 have l2:=HM.out.lt
 have k0:∀q:Bw w2,q.to.cell? ⟨b4,0,none⟩=some (.slice A n c):=fun q=>q.cell HK.out.row.lt HK.out.row.cell
 have k1:∀q:Bw w2,q.to.cell? ⟨b3,0,none⟩=some (.int .i64 i):=fun q=>q.cell HK.out.ht HK.out.h0
 have k2:∀q:Bw w2,q.to.cell? ⟨b3,1,none⟩=some (.int .i64 g):=fun q=>q.cell HK.out.ht HK.out.h1
 have k3:∀q:Bw w2,q.to.cell? ⟨b3,2,none⟩=some (.int .i64 f):=fun q=>q.cell HK.out.ht HK.out.h2
 have k4:∀q:Bw w2,q.to.cell? ⟨b10,0,none⟩=some (.int .i64 T):=fun q=>q.cell HK.out.lt.lt HK.out.lt.cell
 have b4':∀q:Bw w2,q.to.cell? ⟨w.heap.size,4,none⟩=some (.int .i64 mf):=fun q=>q.cell l2 HM.out.c4
 have b5':∀q:Bw w2,q.to.cell? ⟨w.heap.size,5,none⟩=some (.int .i64 me):=fun q=>q.cell l2 HM.out.c5
 by_cases c1:n<1000
 ·have t1:(n:Int)<1000:=by omega
  by_cases c2:mf=X
  ·have t2:((mf:Int)==(X:Int))=true:=by rw[beq_iff_eq];omega
   by_cases c3:T<=me
   ·have t3:(T:Int)<=(me:Int):=by omega
    have HSO:=Lib.hid (show ∀wx,Below w2.heap.size w2 wx->(fun wx=>Below w2.heap.size w2 wx/\wx.cell? ⟨b4,0,none⟩=some (.slice A n c)/\wx.cell? ⟨b3,0,none⟩=some (.int .i64 i)/\wx.cell? ⟨b3,1,none⟩=some (.int .i64 g)/\wx.cell? ⟨b3,2,none⟩=some (.int .i64 f)/\wx.cell? ⟨b10,0,none⟩=some (.int .i64 T)/\wx.cell? ⟨w.heap.size,0,none⟩=some (.int .i64 ma)/\wx.cell? ⟨w.heap.size,1,none⟩=some (.int .i64 ms)/\wx.cell? ⟨w.heap.size,2,none⟩=some (.int .i64 mr)/\wx.cell? ⟨w.heap.size,3,none⟩=some (.int .i64 mc)/\wx.cell? ⟨w.heap.size,4,none⟩=some (.int .i64 mf)/\wx.cell? ⟨w.heap.size,5,none⟩=some (.int .i64 me)/\wx.cell? ⟨w.heap.size,6,none⟩=some (.int .i64 ml)) wx from fun wx hb =>
     have q:Bw w2:=⟨wx,hb⟩
     ⟨hb,(⟨wx,hb⟩:Bw w2).cell HK.out.row.lt HK.out.row.cell,(⟨wx,hb⟩:Bw w2).cell HK.out.ht HK.out.h0,(⟨wx,hb⟩:Bw w2).cell HK.out.ht HK.out.h1,(⟨wx,hb⟩:Bw w2).cell HK.out.ht HK.out.h2,(⟨wx,hb⟩:Bw w2).cell HK.out.lt.lt HK.out.lt.cell,
      (⟨wx,hb⟩:Bw w2).cell l2 HM.out.c0,(⟨wx,hb⟩:Bw w2).cell l2 HM.out.c1,(⟨wx,hb⟩:Bw w2).cell l2 HM.out.c2,(⟨wx,hb⟩:Bw w2).cell l2 HM.out.c3,(⟨wx,hb⟩:Bw w2).cell l2 HM.out.c4,(⟨wx,hb⟩:Bw w2).cell l2 HM.out.c5,(⟨wx,hb⟩:Bw w2).cell l2 HM.out.c6⟩)
    have HS0:=Lib.hid (HSO.out w2.drew ⟨rfl,rfl,rfl,Nat.le_refl _,fun _ _=>rfl⟩)
    have HN0:=Lib.hid (HNX.out w2.drew (HK.out.rd.ext (w':=w2.drew) ⟨rfl,rfl,rfl,Nat.le_refl _,fun _ _=>rfl⟩))
    have HV:=Lib.hid (show okM ⟨ma,ms,mr,mc,mf,me,ml⟩=r from Bool.eq_iff_iff.2 ⟨fun h=>HR.out.2 ⟨⟨c1,c2,c3⟩,h⟩,fun h=>(HR.out.1 h).2⟩)
    rcases hok:okM ⟨ma,ms,mr,mc,mf,me,ml⟩ with _|_
    all_goals
     rw[hok] at HV HB1
     simp only[Bool.false_eq_true,if_false,if_true] at HB1
     clear hok c1 c2 c3 k0 k1 k2 k3 k4 b4' b5' HR
     go_region_held3 (fun wx=>Below w2.heap.size w2 wx/\wx.cell? ⟨b4,0,none⟩=some (.slice A n c)/\wx.cell? ⟨b3,0,none⟩=some (.int .i64 i)/\wx.cell? ⟨b3,1,none⟩=some (.int .i64 g)/\wx.cell? ⟨b3,2,none⟩=some (.int .i64 f)/\wx.cell? ⟨b10,0,none⟩=some (.int .i64 T)/\wx.cell? ⟨w.heap.size,0,none⟩=some (.int .i64 ma)/\wx.cell? ⟨w.heap.size,1,none⟩=some (.int .i64 ms)/\wx.cell? ⟨w.heap.size,2,none⟩=some (.int .i64 mr)/\wx.cell? ⟨w.heap.size,3,none⟩=some (.int .i64 mc)/\wx.cell? ⟨w.heap.size,4,none⟩=some (.int .i64 mf)/\wx.cell? ⟨w.heap.size,5,none⟩=some (.int .i64 me)/\wx.cell? ⟨w.heap.size,6,none⟩=some (.int .i64 ml)) (first|assumption|exact HS0.out|exact HSO.out _ (hS5.1.trans ((ext_alloc _ _).mono hS5.1.size))) (first
      |(go_at_call 90;refine HN0.out.mono ?_;rintro e5 w5 ⟨rfl,hb5⟩;have hS5:=HSO.out _ (HS0.out.1.trans (hb5.mono HS0.out.1.size)))
      |(go_at_call 33;refine(HB1.out _).mono ?_;rintro e6 w6 ⟨rfl,hb6⟩;have hS6:=HSO.out _ (hS5.1.trans (hb6.mono hS5.1.size))))
     go_wp2_with fail
     go_ret
     exact⟨by rw[<-HV.out];rfl,HB.out.trans (hS6.1.mono HB.out.size)⟩
   ·have t3: ¬ (T:Int)<=(me:Int):=by omega
    have HF:=Lib.hid (show false=r by rcases r with _|_;rfl;exact absurd (HR.out.1 rfl).1.2.2 c3)
    clear c1 c2 c3
    refine wp_region_quiet_below (by assumption) (by kernel_rfl) ?_
    repeat (first|go_big_quiet_skip|quiet_step (first|(go_at_call 90;refine below_of (HNX.out _ (HK.out.rd.ext (Bw.h _))))))
    refine wpQuiet_nil ?_
    intro _ hw'
    obtain⟨q,rfl⟩:=hw'
    go_wp2_with fail
    go_ret
    exact⟨by rw[<-HF.out];rfl,HB.out.trans (q.h.mono HB.out.size)⟩
  ·have t2:((mf:Int)==(X:Int))=false:=by rw[beq_eq_false_iff_ne];omega
   have HF:=Lib.hid (show false=r by rcases r with _|_;rfl;exact absurd (HR.out.1 rfl).1.2.1 c2)
   clear c1 c2
   refine wp_region_quiet_below (by assumption) (by kernel_rfl) ?_
   repeat (first|go_big_quiet_skip|quiet_step (first|(go_at_call 90;refine below_of (HNX.out _ (HK.out.rd.ext (Bw.h _))))))
   refine wpQuiet_nil ?_
   intro _ hw'
   obtain⟨q,rfl⟩:=hw'
   go_wp2_with fail
   go_ret
   exact⟨by rw[<-HF.out];rfl,HB.out.trans (q.h.mono HB.out.size)⟩
 ·have t1: ¬ (n:Int)<1000:=by omega
  have HF:=Lib.hid (show false=r by rcases r with _|_;rfl;exact absurd (HR.out.1 rfl).1.1 c1)
  clear c1
  refine wp_region_quiet_below (by assumption) (by kernel_rfl) ?_
  repeat (first|go_big_quiet_skip|quiet_step (fail))
  refine wpQuiet_nil ?_
  intro _ hw'
  obtain⟨q,rfl⟩:=hw'
  go_wp2_with fail
  go_ret
  exact⟨by rw[<-HF.out];rfl,HB.out.trans (q.h.mono HB.out.size)⟩
end Sn
end Go.Proofs.YtlnbjikooadmoaaGreat
namespace Go.Proofs.YtlnbjikooadmoaaGreat
namespace Sn
open Go.RowKit Hd Fm Bk
def MfAns (x:Fr) (e:Ending):Prop:=(∃m,metaF x=some m/\e=.returned (.tuple #[mv m,.bool true]))∨(metaF x=none/\e=.returned (.tuple #[magg 0 0 0 0 0 0 0,.bool false]))
set_option maxHeartbeats 6400000 in
set_option maxRecDepth 100000 in
theorem meta_any (k:Nat) (b:ByteArray) (p t:Nat) (w:World) (hb:b.size<=1000000) (hp:p<=t) (ht:t<=1000000000) :
  Calls Tryz.prog 91 #[fagg k b p t] w fun e w'=>MfAns (k,b,p,t) e/\Below w.heap.size w w':=by
 have mixed:Tryz.prog.follows .mixedOrders=true:=by kernel_rfl
 have HI:=Lib.hid (show(Tryz.prog.info? 39).map (·.size)=some 7 by kernel_rfl)
 have HB:=Lib.hid ((ext_alloc w (.cells #[.int .i64 k,.string b,.int .i64 p,.int .i64 t] 92)).trans ((ext_alloc _ (.cells #[.int .i64 0,.int .i64 0,.int .i64 0,.int .i64 0,.int .i64 0,.int .i64 0,.int .i64 0] 39)).mono (by simp)))
 have M1:=Lib.hid (show Fb ((w.alloc (.cells #[.int .i64 k,.string b,.int .i64 p,.int .i64 t] 92)).alloc (.cells #[.int .i64 0,.int .i64 0,.int .i64 0,.int .i64 0,.int .i64 0,.int .i64 0,.int .i64 0] 39)) w.heap.size k b p t from
  (Below.heap_alloc _ _ _ (by simp)).trans (heap_alloc_new w _))
 have M2:=Lib.hid (show Mb ((w.alloc (.cells #[.int .i64 k,.string b,.int .i64 p,.int .i64 t] 92)).alloc (.cells #[.int .i64 0,.int .i64 0,.int .i64 0,.int .i64 0,.int .i64 0,.int .i64 0,.int .i64 0] 39)) (w.heap.size+1) 0 0 0 0 0 0 0 from by
  have hh:=Mb.new (w.alloc (.cells #[.int .i64 k,.string b,.int .i64 p,.int .i64 t] 92))
  rw[show(w.alloc (.cells #[.int .i64 k,.string b,.int .i64 p,.int .i64 t] 92)).heap.size=w.heap.size+1 by simp] at hh
  exact hh)
 have HP:=Lib.hid (fun w=>Peek_any b w hb)
 unfold fagg
 go_enter Tryz.func91, Tryz.ntmps91
 go_wp2_with fail
 generalize (w.alloc (.cells #[.int .i64 k,.string b,.int .i64 p,.int .i64 t] 92)).alloc (.cells #[.int .i64 0,.int .i64 0,.int .i64 0,.int .i64 0,.int .i64 0,.int .i64 0,.int .i64 0] 39)=w0 at *
 refine(HP.out _).mono ?_
 rintro e1 w1 ⟨ha,hb1⟩
 have F1:=M1.out.below hb1 M1.out.lt
 have G1:=M2.out.below hb1 M2.out.lt
 have HB1:=Lib.hid (HB.out.trans (hb1.mono HB.out.size))
 have HL1:=Lib.hid (Nat.lt_of_lt_of_le M2.out.lt hb1.size)
 have l1:w.heap.size<w1.heap.size:=Nat.lt_of_lt_of_le M1.out.lt hb1.size
 have l2:w.heap.size+1<w1.heap.size:=Nat.lt_of_lt_of_le M2.out.lt hb1.size
 clear hb1
 rcases ha with ⟨md,raw,count,first,early,late,r,hpk,rfl⟩|⟨hpk,x,rfl,hx⟩
 ·by_cases hk:k=2
  ·subst hk
   have HM:=Lib.hid (show metaF (2,b,p,t)=some ⟨p,t-p,raw,count,first,early,late⟩ by unfold metaF;rw[hpk];exact if_pos rfl)
   obtain⟨d,hd⟩:∃d:Nat,t-p=d:=⟨_,rfl⟩
   have b2:IntKind.i64.wrap ((t:Int)-(p:Int))=(d:Int):=by rw[IntKind.wrap_i64];omega
   rw[hd] at HM
   clear hd
   have F2:Fb (w1.alloc (.cells #[.int .i64 0,.int .i64 0,.int .i64 raw,.int .i64 count,.int .i64 first,.int .i64 early,.int .i64 late] 39)) w.heap.size 2 b p t:=F1.below (ext_alloc w1 _) l1
   have G2:Mb (w1.alloc (.cells #[.int .i64 0,.int .i64 0,.int .i64 raw,.int .i64 count,.int .i64 first,.int .i64 early,.int .i64 late] 39)) (w.heap.size+1) 0 0 0 0 0 0 0:=G1.below (ext_alloc w1 _) l2
   have HB2:=Lib.hid (HB1.out.trans ((ext_alloc w1 (.cells #[.int .i64 0,.int .i64 0,.int .i64 raw,.int .i64 count,.int .i64 first,.int .i64 early,.int .i64 late] 39)).mono HB1.out.size))
   have HL2:=Lib.hid (Nat.lt_of_lt_of_le l2 (ext_alloc w1 (.cells #[.int .i64 0,.int .i64 0,.int .i64 raw,.int .i64 count,.int .i64 first,.int .i64 early,.int .i64 late] 39)).size)
   have HW2:=Lib.hid (show Mb (w1.alloc (.cells #[.int .i64 0,.int .i64 0,.int .i64 raw,.int .i64 count,.int .i64 first,.int .i64 early,.int .i64 late] 39)) w1.heap.size 0 0 raw count first early late from heap_alloc_new w1 _)
   clear hpk HP F1 G1
   unfold magg
   go_upto_region 2 with (fail)
   generalize w1.alloc (.cells #[.int .i64 0,.int .i64 0,.int .i64 raw,.int .i64 count,.int .i64 first,.int .i64 early,.int .i64 late] 39)=w2 at *
   have HG2:=Lib.hid (show w.heap.size<=w.heap.size+1 from Nat.le_succ _)
   generalize w.heap.size+1=g2 at *
   have c0:=F2.c0
   have c2:=F2.c2
   have c3:=F2.c3
   have s0:=HW2.out.c0
   have s1:=HW2.out.c1
   have y0:=HW2.out.fz 0
   have y1:=HW2.out.fz 1
   have HG:=Lib.hid (show Blk w2 g2 #[.int .i64 0,.int .i64 0,.int .i64 0,.int .i64 0,.int .i64 0,.int .i64 0,.int .i64 0] 39 from G2)
   have HL1:=Lib.hid (show w.heap.size<=w1.heap.size/\g2≠w1.heap.size from⟨Nat.le_of_lt l1,Nat.ne_of_lt l2⟩)
   clear F2 G2 l1 l2
   go_wp2_with fail
   go_region
   have HX:=Lib.hid (show Blk (((w2.setCell ⟨w1.heap.size,0,none⟩ (.int .i64 (p:Int))).setCell ⟨w1.heap.size,1,none⟩ (.int .i64 (d:Int))).drew) w1.heap.size #[.int .i64 p,.int .i64 d,.int .i64 raw,.int .i64 count,.int .i64 first,.int .i64 early,.int .i64 late] 39 from(HW2.out.set0 p).set1 d)
   have HY:=Lib.hid (show Blk (((w2.setCell ⟨w1.heap.size,0,none⟩ (.int .i64 (p:Int))).setCell ⟨w1.heap.size,1,none⟩ (.int .i64 (d:Int))).drew) g2 #[.int .i64 0,.int .i64 0,.int .i64 0,.int .i64 0,.int .i64 0,.int .i64 0,.int .i64 0] 39 from(HG.out.setCell HL1.out.2 _).setCell HL1.out.2 _)
   have HB4:=Lib.hid (show Below w.heap.size w (((w2.setCell ⟨w1.heap.size,0,none⟩ (.int .i64 (p:Int))).setCell ⟨w1.heap.size,1,none⟩ (.int .i64 (d:Int))).drew) from((HB2.out.setCell (p:=⟨w1.heap.size,0,none⟩) HL1.out.1 _).setCell (p:=⟨w1.heap.size,1,none⟩) HL1.out.1 _).drew)
   generalize ((w2.setCell ⟨w1.heap.size,0,none⟩ (.int .i64 (p:Int))).setCell ⟨w1.heap.size,1,none⟩ (.int .i64 (d:Int))).drew=w4 at *
   go_wp2_with (first|(refine wpList_load_row rfl 39 (.tmp 4) rfl w1.heap.size #[.int .i64 p,.int .i64 d,.int .i64 raw,.int .i64 count,.int .i64 first,.int .i64 early,.int .i64 late] _ (by simp[go_sem,Act.eval]) HX.out Tryz.underlying39 rfl HI.out ?_)|(refine wpList_store_row rfl 39 (.tmp 2) (.tmp 29) rfl g2 #[.int .i64 p,.int .i64 d,.int .i64 raw,.int .i64 count,.int .i64 first,.int .i64 early,.int .i64 late] #[.int .i64 0,.int .i64 0,.int .i64 0,.int .i64 0,.int .i64 0,.int .i64 0,.int .i64 0] (by simp[go_sem,Act.eval]) (by simp[go_sem,Act.eval]) HY.out HI.out rfl (by simp[Value.oneCell']) ?_))
   refine bodyPost_ret (v:=.tuple #[mv ⟨p,d,raw,count,first,early,late⟩,.bool true]) (by exact results_cell2 rfl rfl rfl (HY.out.set #[.int .i64 p,.int .i64 d,.int .i64 raw,.int .i64 count,.int .i64 first,.int .i64 early,.int .i64 late]) Tryz.underlying39 rfl HI.out) (by exact rfl) ?_
   exact⟨.inl ⟨_,HM.out,rfl⟩,ext_setRow HB4.out HG2.out _⟩
  ·have HM:=Lib.hid (show metaF (k,b,p,t)=none by unfold metaF;rw[hpk];exact if_neg hk)
   have F2:Fb (w1.alloc (.cells #[.int .i64 0,.int .i64 0,.int .i64 raw,.int .i64 count,.int .i64 first,.int .i64 early,.int .i64 late] 39)) w.heap.size k b p t:=F1.below (ext_alloc w1 _) l1
   have G2:Mb (w1.alloc (.cells #[.int .i64 0,.int .i64 0,.int .i64 raw,.int .i64 count,.int .i64 first,.int .i64 early,.int .i64 late] 39)) (w.heap.size+1) 0 0 0 0 0 0 0:=G1.below (ext_alloc w1 _) l2
   have HB2:=Lib.hid (HB1.out.trans ((ext_alloc w1 (.cells #[.int .i64 0,.int .i64 0,.int .i64 raw,.int .i64 count,.int .i64 first,.int .i64 early,.int .i64 late] 39)).mono HB1.out.size))
   have HL2:=Lib.hid (Nat.lt_of_lt_of_le l2 (ext_alloc w1 (.cells #[.int .i64 0,.int .i64 0,.int .i64 raw,.int .i64 count,.int .i64 first,.int .i64 early,.int .i64 late] 39)).size)
   clear hpk HP F1 G1
   unfold magg
   go_upto_region 2 with (fail)
   generalize w1.alloc (.cells #[.int .i64 0,.int .i64 0,.int .i64 raw,.int .i64 count,.int .i64 first,.int .i64 early,.int .i64 late] 39)=w2 at *
   have HG2:=Lib.hid (show w.heap.size<=w.heap.size+1 from Nat.le_succ _)
   generalize w.heap.size+1=g2 at *
   have c0:=F2.c0
   have c2:=F2.c2
   have c3:=F2.c3
   have HG:=Lib.hid (show Blk w2 g2 #[.int .i64 0,.int .i64 0,.int .i64 0,.int .i64 0,.int .i64 0,.int .i64 0,.int .i64 0] 39 from G2)
   clear F2 G2 l1 l2
   go_wp2_with (first|(refine wpList_store_row rfl 39 (.tmp 2) (.tmp 19) rfl g2 #[.int .i64 0,.int .i64 0,.int .i64 0,.int .i64 0,.int .i64 0,.int .i64 0,.int .i64 0] #[.int .i64 0,.int .i64 0,.int .i64 0,.int .i64 0,.int .i64 0,.int .i64 0,.int .i64 0] (by simp[go_sem,Act.eval]) (by simp[go_sem,Act.eval]) HG.out HI.out rfl (by simp[Value.oneCell']) ?_))
   refine bodyPost_ret (v:=.tuple #[magg 0 0 0 0 0 0 0,.bool false]) (by exact results_cell2 rfl rfl rfl (HG.out.set #[.int .i64 0,.int .i64 0,.int .i64 0,.int .i64 0,.int .i64 0,.int .i64 0,.int .i64 0]) Tryz.underlying39 rfl HI.out) (by exact rfl) ?_
   exact⟨.inr ⟨HM.out,rfl⟩,ext_setRow HB2.out HG2.out _⟩
 ·have HM:=Lib.hid (show metaF (k,b,p,t)=none by unfold metaF;rw[hpk])
  by_cases hk:k=2
  ·subst hk
   have F2:Fb (w1.alloc (.cells #[.int .i64 0,.int .i64 0,.int .i64 0,.int .i64 0,.int .i64 0,.int .i64 0,.int .i64 0] 39)) w.heap.size 2 b p t:=F1.below (ext_alloc w1 _) l1
   have G2:Mb (w1.alloc (.cells #[.int .i64 0,.int .i64 0,.int .i64 0,.int .i64 0,.int .i64 0,.int .i64 0,.int .i64 0] 39)) (w.heap.size+1) 0 0 0 0 0 0 0:=G1.below (ext_alloc w1 _) l2
   have HB2:=Lib.hid (HB1.out.trans ((ext_alloc w1 (.cells #[.int .i64 0,.int .i64 0,.int .i64 0,.int .i64 0,.int .i64 0,.int .i64 0,.int .i64 0] 39)).mono HB1.out.size))
   have HL2:=Lib.hid (Nat.lt_of_lt_of_le l2 (ext_alloc w1 (.cells #[.int .i64 0,.int .i64 0,.int .i64 0,.int .i64 0,.int .i64 0,.int .i64 0,.int .i64 0] 39)).size)
   clear hpk HP F1 G1
   unfold magg
   go_upto_region 2 with (fail)
   generalize w1.alloc (.cells #[.int .i64 0,.int .i64 0,.int .i64 0,.int .i64 0,.int .i64 0,.int .i64 0,.int .i64 0] 39)=w2 at *
   have HG2:=Lib.hid (show w.heap.size<=w.heap.size+1 from Nat.le_succ _)
   generalize w.heap.size+1=g2 at *
   have c0:=F2.c0
   have c2:=F2.c2
   have c3:=F2.c3
   have HG:=Lib.hid (show Blk w2 g2 #[.int .i64 0,.int .i64 0,.int .i64 0,.int .i64 0,.int .i64 0,.int .i64 0,.int .i64 0] 39 from G2)
   clear F2 G2 l1 l2
   go_wp2_with (first|(refine wpList_store_row rfl 39 (.tmp 2) (.tmp 19) rfl g2 #[.int .i64 0,.int .i64 0,.int .i64 0,.int .i64 0,.int .i64 0,.int .i64 0,.int .i64 0] #[.int .i64 0,.int .i64 0,.int .i64 0,.int .i64 0,.int .i64 0,.int .i64 0,.int .i64 0] (by simp[go_sem,Act.eval]) (by simp[go_sem,Act.eval]) HG.out HI.out rfl (by simp[Value.oneCell']) ?_))
   refine bodyPost_ret (v:=.tuple #[magg 0 0 0 0 0 0 0,.bool false]) (by exact results_cell2 rfl rfl rfl (HG.out.set #[.int .i64 0,.int .i64 0,.int .i64 0,.int .i64 0,.int .i64 0,.int .i64 0,.int .i64 0]) Tryz.underlying39 rfl HI.out) (by exact rfl) ?_
   exact⟨.inr ⟨HM.out,rfl⟩,ext_setRow HB2.out HG2.out _⟩
  ·skip
   have F2:Fb (w1.alloc (.cells #[.int .i64 0,.int .i64 0,.int .i64 0,.int .i64 0,.int .i64 0,.int .i64 0,.int .i64 0] 39)) w.heap.size k b p t:=F1.below (ext_alloc w1 _) l1
   have G2:Mb (w1.alloc (.cells #[.int .i64 0,.int .i64 0,.int .i64 0,.int .i64 0,.int .i64 0,.int .i64 0,.int .i64 0] 39)) (w.heap.size+1) 0 0 0 0 0 0 0:=G1.below (ext_alloc w1 _) l2
   have HB2:=Lib.hid (HB1.out.trans ((ext_alloc w1 (.cells #[.int .i64 0,.int .i64 0,.int .i64 0,.int .i64 0,.int .i64 0,.int .i64 0,.int .i64 0] 39)).mono HB1.out.size))
   have HL2:=Lib.hid (Nat.lt_of_lt_of_le l2 (ext_alloc w1 (.cells #[.int .i64 0,.int .i64 0,.int .i64 0,.int .i64 0,.int .i64 0,.int .i64 0,.int .i64 0] 39)).size)
   clear hpk HP F1 G1
   unfold magg
   go_upto_region 2 with (fail)
   generalize w1.alloc (.cells #[.int .i64 0,.int .i64 0,.int .i64 0,.int .i64 0,.int .i64 0,.int .i64 0,.int .i64 0] 39)=w2 at *
   have HG2:=Lib.hid (show w.heap.size<=w.heap.size+1 from Nat.le_succ _)
   generalize w.heap.size+1=g2 at *
   have c0:=F2.c0
   have c2:=F2.c2
   have c3:=F2.c3
   have HG:=Lib.hid (show Blk w2 g2 #[.int .i64 0,.int .i64 0,.int .i64 0,.int .i64 0,.int .i64 0,.int .i64 0,.int .i64 0] 39 from G2)
   clear F2 G2 l1 l2
   go_wp2_with (first|(refine wpList_store_row rfl 39 (.tmp 2) (.tmp 19) rfl g2 #[.int .i64 0,.int .i64 0,.int .i64 0,.int .i64 0,.int .i64 0,.int .i64 0,.int .i64 0] #[.int .i64 0,.int .i64 0,.int .i64 0,.int .i64 0,.int .i64 0,.int .i64 0,.int .i64 0] (by simp[go_sem,Act.eval]) (by simp[go_sem,Act.eval]) HG.out HI.out rfl (by simp[Value.oneCell']) ?_))
   refine bodyPost_ret (v:=.tuple #[magg 0 0 0 0 0 0 0,.bool false]) (by exact results_cell2 rfl rfl rfl (HG.out.set #[.int .i64 0,.int .i64 0,.int .i64 0,.int .i64 0,.int .i64 0,.int .i64 0,.int .i64 0]) Tryz.underlying39 rfl HI.out) (by exact rfl) ?_
   exact⟨.inr ⟨HM.out,rfl⟩,ext_setRow HB2.out HG2.out _⟩
end Sn
end Go.Proofs.YtlnbjikooadmoaaGreat
namespace Go.Proofs.YtlnbjikooadmoaaGreat
namespace Sn
open Go.RowKit Hd Fm Bk
structure But2 (b4 b10:Nat) (w w':World):Prop where
 os:w'.os=w.os
 tape:w'.tape=w.tape
 output:w'.output=w.output
 size:w.heap.size<=w'.heap.size
 block:∀k,k<w.heap.size->k≠b4->k≠b10->w'.heap[k]? =w.heap[k]?
section
variable {b4 b10:Nat} {w w' w'':World}
theorem But2.refl (b4 b10:Nat) (w:World):But2 b4 b10 w w:=⟨rfl,rfl,rfl,Nat.le_refl _,fun _ _ _ _=>rfl⟩
theorem But2.ext (h:But2 b4 b10 w w') (hb:Below w'.heap.size w' w''):But2 b4 b10 w w'' :=
 ⟨hb.os.trans h.os,hb.tape.trans h.tape,hb.output.trans h.output,Nat.le_trans h.size hb.size,fun k hk h4 h10=>(hb.block k (Nat.lt_of_lt_of_le hk h.size)).trans (h.block k hk h4 h10)⟩
theorem But2.grown (h:But2 b4 b10 w w') {row:Option Nat} (hg:w'.grownBy w'' row) (hr:∀k,row=some k->w.heap.size<=k):But2 b4 b10 w w'' :=
 ⟨hg.os.trans h.os,hg.tape.trans h.tape,hg.output.trans h.output,Nat.le_trans h.size hg.size,fun k hk h4 h10=>(hg.block k (Nat.lt_of_lt_of_le hk h.size) (fun e=>by have:=hr k e.symm;omega)).trans (h.block k hk h4 h10)⟩
theorem But2.set4 (h:But2 b4 b10 w w') (j:Nat) (v:Value):But2 b4 b10 w (w'.setCell ⟨b4,j,none⟩ v) :=
 ⟨h.os,h.tape,h.output,by simpa using h.size,fun k hk h4 h10=>(Below.heap_setCell w' ⟨b4,j,none⟩ v k h4).trans (h.block k hk h4 h10)⟩
theorem But2.set10 (h:But2 b4 b10 w w') (j:Nat) (v:Value):But2 b4 b10 w (w'.setCell ⟨b10,j,none⟩ v) :=
 ⟨h.os,h.tape,h.output,by simpa using h.size,fun k hk h4 h10=>(Below.heap_setCell w' ⟨b10,j,none⟩ v k h10).trans (h.block k hk h4 h10)⟩
theorem But2.drew (h:But2 b4 b10 w w'):But2 b4 b10 w w'.drew:=⟨h.os,h.tape,h.output,h.size,h.block⟩
theorem But2.below (h:But2 b4 b10 w w') {w0:World} {B:Nat} (hb:Below B w0 w) (h4:B<=b4) (h10:B<=b10) (hB:B<=w.heap.size):Below B w0 w' :=
 ⟨h.os.trans hb.os,h.tape.trans hb.tape,h.output.trans hb.output,Nat.le_trans hb.size h.size,fun k hk=>(h.block k (Nat.lt_of_lt_of_le hk hB) (by omega) (by omega)).trans (hb.block k hk)⟩
theorem But2.cell (h:But2 b4 b10 w w') {a:Addr} {v:Value} (ha:a.block<w.heap.size) (h4:a.block≠b4) (h10:a.block≠b10) (hc:w.cell? a=some v):w'.cell? a=some v:=by
 have:=h.block a.block ha h4 h10
 unfold World.cell? at hc ⊢
 rw[this];exact hc
end
theorem length_flF (l:List Fr):(flF l).length=l.length*4:=by
 induction l with
 |nil=>rfl
 |cons x l ih=>show(clF x++flF l).length=_;rw[List.length_append,ih,List.length_cons];show 4+_=_;omega
theorem flF_at:∀(l:List Fr) (k:Nat) (x:Fr),l[k]? =some x-> ∀j,j<4->(flF l)[k*4+j]? =(clF x)[j]?
 | [],k,x,h,_,_=>by simp at h
 |y::l,0,x,h,j,hj=>by
  simp only[List.getElem?_cons_zero,Option.some.injEq] at h
  subst h
  show(clF y++flF l)[0*4+j]? =_
  rw[Nat.zero_mul,Nat.zero_add,List.getElem?_append_left (by simpa[clF] using hj)]
 |y::l,k+1,x,h,j,hj=>by
  have:=flF_at l k x (by simpa using h) j hj
  show(clF y++flF l)[(k+1)*4+j]? =_
  rw[List.getElem?_append_right (by simp[clF];omega),<-this]
  congr 1
  simp[clF];omega
theorem fr_at {w w':World} {b4 b10 B n k:Nat} {A:Option Addr} {l:List Fr} {x:Fr} (h:Rd w B 4 A n (flF l)) (hk:l[k]? =some x) (hb:But2 b4 b10 w w') (hB:B<=w.heap.size) (hA:∀ad,A=some ad->ad.block≠b4/\ad.block≠b10) :
  ∃ad,A=some ad/\k<n/\w'.cell? (ad.add (k*4))=some (.int .i64 (x.1:Int))/\w'.cell? ⟨(ad.add (k*4)).block,(ad.add (k*4)).off+1,none⟩=some (.string x.2.1) /\
   w'.cell? ⟨(ad.add (k*4)).block,(ad.add (k*4)).off+2,none⟩=some (.int .i64 (x.2.2.1:Int))/\w'.cell? ⟨(ad.add (k*4)).block,(ad.add (k*4)).off+3,none⟩=some (.int .i64 (x.2.2.2:Int)):=by
 have hl:l.length=n:=by have:=h.len;rw[length_flF] at this;omega
 have hkn:k<n:=by rw[<-hl];exact(List.getElem?_eq_some_iff.1 hk).1
 obtain⟨ad,e,hbk,hc⟩:=h.cells (by omega)
 obtain⟨h4,h10⟩:=hA ad e
 have hf:=flF_at l k x hk
 have hg:∀j v,j<4->(clF x)[j]? =some v->w'.cell? (ad.add (k*4+j))=some v:=fun j v hj hv =>
  hb.cell (by rw[add_block];omega) (by rw[add_block];exact h4) (by rw[add_block];exact h10) (hc _ _ ((hf j hj).trans hv))
 have ha:∀j,ad.add (k*4+(j+1))=⟨(ad.add (k*4)).block,(ad.add (k*4)).off+(j+1),none⟩:=fun j=>by rw[<-add_add];rfl
 refine⟨ad,e,hkn,hg 0 _ (by omega) rfl,?_,?_,?_⟩
 ·rw[<-ha];exact hg 1 _ (by omega) rfl
 ·rw[<-ha];exact hg 2 _ (by omega) rfl
 ·rw[<-ha];exact hg 3 _ (by omega) rfl
structure Lp (w wL wr:World) (b4 b3 b10:Nat) (i g f:Int) (h1 e0:Nat) (s:ByteArray) (A:Option Addr) (n c e k:Nat) (L:List Mt):Prop where
 st:St e0 s L e
 rr:Sn.rn h1 s L e=Sn.rn h1 s [] e0
 fs:(frs s e0).drop k=frs s e
 row:Var wr b4 35 (.slice A n c)
 own:OwnM wr wL.heap.size (.slice A n c) L
 hd:wr.heap[b3]? =some (.cells #[.int .i64 i,.int .i64 g,.int .i64 f] 33 (0,0))
 lt:Var wr b10 3 (.int .i64 (lateM L:Int))
 but:But2 b4 b10 wL wr
theorem Lp.kp {w wL wr:World} {b4 b3 b10:Nat} {i g f:Int} {h1 e0:Nat} {s:ByteArray} {A:Option Addr} {n c e k:Nat} {L:List Mt} (h:Lp w wL wr b4 b3 b10 i g f h1 e0 s A n c e k L):Kp wr b4 b3 b10 i g f A n c (lateM L) L/\n=L.length:=by
 obtain⟨A',c',e1,-,-,hr⟩:=h.own.rd
 cases e1
 exact⟨⟨h.row,h.hd,h.lt,hr⟩,rfl⟩
theorem Lp.ok {w wL wr:World} {b4 b3 b10:Nat} {i g f:Int} {h1 e0:Nat} {s:ByteArray} {A:Option Addr} {n c e k:Nat} {L:List Mt} (h:Lp w wL wr b4 b3 b10 i g f h1 e0 s A n c e k L):okBl L=true:=by
 unfold okBl;rw[h.st.1,decide_eq_true h.st.2.1];rfl
theorem Lp.ext {w wL wr wr':World} {b4 b3 b10:Nat} {i g f:Int} {h1 e0:Nat} {s:ByteArray} {A:Option Addr} {n c e k:Nat} {L:List Mt} (h:Lp w wL wr b4 b3 b10 i g f h1 e0 s A n c e k L) (hb:Below wr.heap.size wr wr'):Lp w wL wr' b4 b3 b10 i g f h1 e0 s A n c e k L :=
 ⟨h.st,h.rr,h.fs,h.row.below hb h.row.lt,h.own.below hb (Nat.le_refl _),(hb.block b3 (Array.getElem?_eq_some_iff.1 h.hd).1).trans h.hd,h.lt.below hb h.lt.lt,h.but.ext hb⟩
theorem Lp.next {w wL wr:World} {b4 b3 b10:Nat} {i g f:Int} {h1 e0:Nat} {s:ByteArray} {A:Option Addr} {n c e k:Nat} {L:List Mt} (h:Lp w wL wr b4 b3 b10 i g f h1 e0 s A n c e k L) (hk:k<(frs s e0).length) :
  GF s e/\(frs s e0)[k]? =some (fr s e)/\(frs s e0).drop (k+1)=frs s (fto s e):=by
 have hd:=List.drop_eq_getElem_cons hk
 have hfs:=h.fs
 rw[hd] at hfs
 by_cases hg:GF s e
 ·rw[frs_yes hg] at hfs
  injection hfs with h1 h2
  exact⟨hg,by rw[List.getElem?_eq_getElem hk,h1],h2⟩
 ·rw[frs_no hg] at hfs;cases hfs
theorem Lp.stop {w wL wr:World} {b4 b3 b10:Nat} {i g f:Int} {h1 e0:Nat} {s:ByteArray} {A:Option Addr} {n c e k:Nat} {L:List Mt} (h:Lp w wL wr b4 b3 b10 i g f h1 e0 s A n c e k L) (hn:GF s e->good h1 L (fr s e)=none):rn h1 s [] e0=(L,e):=by
 rw[<-h.rr,rn_stop hn]
theorem Lp.done {w wL wr:World} {b4 b3 b10:Nat} {i g f:Int} {h1 e0:Nat} {s:ByteArray} {A:Option Addr} {n c e k:Nat} {L:List Mt} (h:Lp w wL wr b4 b3 b10 i g f h1 e0 s A n c e k L) (hk: ¬ k<(frs s e0).length):rn h1 s [] e0=(L,e):=by
 refine h.stop fun hg=>?_
 have:=h.fs
 rw[List.drop_eq_nil_of_le (by omega),frs_yes hg] at this
 cases this
def tl (s:ByteArray) (i g f:Int):Option (List Mt×Nat) :=
 if okH i g f=true/\preB s (hdrB i.toNat g.toNat f.toNat)=true then some (rn f.toNat s [] (hdrB i.toNat g.toNat f.toNat).size) else none
def TlAns (s:ByteArray) (i g f:Int) (w:World) (e:Ending) (w':World):Prop :=
 (∃L E v,tl s i g f=some (L,E)/\e=.returned (.tuple #[v,.int .i64 (E:Int),.int .i64 0])/\OwnM w' w.heap.size v L) ∨
 (tl s i g f=none/\e=.returned (.tuple #[.slice none 0 0,.int .i64 0,.int .i64 210]))
end Sn
end Go.Proofs.YtlnbjikooadmoaaGreat
namespace Go.Proofs.YtlnbjikooadmoaaGreat
namespace Sn
open Go.RowKit Hd Fm Bk
set_option maxHeartbeats 3200000 in
set_option maxRecDepth 100000 in
theorem tail_no (s:ByteArray) (i g f:Int) (w:World) (h:tl s i g f=none) :
  Calls Tryz.prog 40 #[.string s,.agg #[.int .i64 i,.int .i64 g,.int .i64 f]] w fun e w'=>TlAns s i g f w e w'/\Below w.heap.size w w':=by
 have mixed:Tryz.prog.follows .mixedOrders=true:=by kernel_rfl
 have hb:∀wx,Calls Tryz.prog 87 #[.string s,.agg #[.int .i64 i,.int .i64 g,.int .i64 f]] wx fun e w'=>e=.returned (.tuple #[.int .i64 0,.bool false])/\Below wx.heap.size wx w':=by
  intro wx
  rcases hk:okH i g f with _|_
  ·exact begun_no s i g f wx hk
  ·have hh:1<=i/\i<=999999/\1<=g/\g<=999999/\1<=f/\f<=1000000000:=by simpa[okH] using hk
   obtain⟨i',rfl⟩:∃n:Nat,i=n:=⟨i.toNat,by omega⟩
   obtain⟨g',rfl⟩:∃n:Nat,g=n:=⟨g.toNat,by omega⟩
   obtain⟨f',rfl⟩:∃n:Nat,f=n:=⟨f.toNat,by omega⟩
   have hp:preB s (hdrB i' g' f')=false:=by
    rcases hp:preB s (hdrB i' g' f') with _|_
    ·rfl
    ·unfold tl at h
     rw[if_pos ⟨hk,by simpa using hp⟩] at h
     cases h
   exact begun_ok s i' g' f' wx (by omega) hp
 have HB:=Lib.hid hb
 have HT:=Lib.hid h
 have HW:=Lib.hid ((ext_alloc w (.cells #[.int .i64 i,.int .i64 g,.int .i64 f] 33)).trans ((ext_alloc _ (.cells #[.slice none 0 0] 35)).mono (by simp)))
 have hv:Var ((w.alloc (.cells #[.int .i64 i,.int .i64 g,.int .i64 f] 33)).alloc (.cells #[.slice none 0 0] 35)) (w.heap.size+1) 35 (.slice none 0 0):=by
  have:=Var.new (w.alloc (.cells #[.int .i64 i,.int .i64 g,.int .i64 f] 33)) 35 (.slice none 0 0)
  rwa [show(w.alloc (.cells #[.int .i64 i,.int .i64 g,.int .i64 f] 33)).heap.size=w.heap.size+1 by simp] at this
 have HV:=Lib.hid hv
 clear hb h hv
 go_enter Tryz.func40, Tryz.ntmps40
 go_wp2_with fail
 go_step3
 go_wp2_with fail
 generalize (w.alloc (.cells #[.int .i64 i,.int .i64 g,.int .i64 f] 33)).alloc (.cells #[.slice none 0 0] 35)=w0 at *
 refine(HB.out _).mono ?_
 rintro e1 w1 ⟨rfl,hb1⟩
 have HV1:=Lib.hid (HV.out.below hb1 HV.out.lt)
 have HB1:=Lib.hid (HW.out.trans (hb1.mono HW.out.size))
 have hc:=HV1.out.cell
 have hf:=HV1.out.frozen
 clear hb1
 go_wp2_with fail
 try rw[Exit.noGoto_ret]
 refine bodyPost_ret (v:=.tuple #[.slice none 0 0,.int .i64 0,.int .i64 210]) (by simp[results,go_sem,hc]) rfl ?_
 exact⟨.inr ⟨HT.out,rfl⟩,HB1.out.setCell (p:=⟨w.heap.size+1,0,none⟩) (Nat.le_succ _) _⟩
end Sn
end Go.Proofs.YtlnbjikooadmoaaGreat
namespace Go.Proofs.YtlnbjikooadmoaaGreat
namespace Sn
open Go.RowKit Hd Fm Bk
theorem tl_yes {s:ByteArray} {i g f:Nat} (h:1<=i/\i<=999999/\1<=g/\g<=999999/\1<=f/\f<=1000000000) (hp:preB s (hdrB i g f)=true):tl s i g f=some (rn f s [] (hdrB i g f).size):=by
 unfold tl
 rw[if_pos ⟨by unfold okH;rw[decide_eq_true_eq];omega,by simpa using hp⟩]
 simp
theorem pre_size {s p:ByteArray} (h:preB s p=true):p.size<=s.size:=by
 have:=congrArg ByteArray.size ((preB_iff s p).1 h)
 rw[ByteArray.size_extract] at this
 omega
theorem Lp.fin {w wL wx:World} {b4 b3 b10:Nat} {i g f:Int} {h1 e0:Nat} {s:ByteArray} {A:Option Addr} {n c e k:Nat} {L:List Mt} (h:Lp w wL wx b4 b3 b10 i g f h1 e0 s A n c e k L) (hr:Sn.rn h1 s [] e0=(L,e)) (ht:tl s i g f=some (Sn.rn h1 s [] e0))
  (hB:Below w.heap.size w wL) (h4:w.heap.size<=b4) (h4':b4<wL.heap.size) (h10:w.heap.size<=b10) :
  TlAns s i g f w (.returned (.tuple #[.slice A n c,.int .i64 (e:Int),.int .i64 0])) (wx.setCell ⟨b4,0,none⟩ (.slice A n c))/\Below w.heap.size w (wx.setCell ⟨b4,0,none⟩ (.slice A n c)):=by
 refine⟨.inl ⟨L,e,_,by rw[ht,hr],rfl,?_⟩,(h.but.set4 0 _).below hB h4 h10 hB.size⟩
 exact own_setCell_far (own_lower h.own hB.size) (fun e=>by have:=(World.ownsRow.lt h.own _ e).1;dsimp only at this;omega) _
set_option maxHeartbeats 6400000 in
set_option maxRecDepth 100000 in
theorem tail_yes (s:ByteArray) (i g f:Nat) (w:World) (hs:s.size<=1000000) (h:1<=i/\i<=999999/\1<=g/\g<=999999/\1<=f/\f<=1000000000) (hp:preB s (hdrB i g f)=true) :
  Calls Tryz.prog 40 #[.string s,.agg #[.int .i64 (i:Int),.int .i64 (g:Int),.int .i64 (f:Int)]] w fun e w'=>TlAns s i g f w e w'/\Below w.heap.size w w':=by
 have mixed:Tryz.prog.follows .mixedOrders=true:=by kernel_rfl
 have HT:=Lib.hid (tl_yes h hp)
 have hse:=pre_size hp
 have HBG:=Lib.hid (fun wx=>begun_ok s i g f wx h hp)
 simp only[if_true] at HBG
 obtain⟨e0,he0⟩:∃e0,(hdrB i g f).size=e0:=⟨_,rfl⟩
 rw[he0] at HT hse HBG
 have HSC:=Lib.hid (fun wx=>scan_any s e0 wx hs (by omega))
 have HFL:=Lib.hid (frs_len s e0 hs)
 have HW:=Lib.hid ((ext_alloc w (.cells #[.int .i64 (i:Int),.int .i64 (g:Int),.int .i64 (f:Int)] 33)).trans ((ext_alloc _ (.cells #[.slice none 0 0] 35)).mono (by simp)))
 have hv:Var ((w.alloc (.cells #[.int .i64 (i:Int),.int .i64 (g:Int),.int .i64 (f:Int)] 33)).alloc (.cells #[.slice none 0 0] 35)) (w.heap.size+1) 35 (.slice none 0 0):=by
  have:=Var.new (w.alloc (.cells #[.int .i64 (i:Int),.int .i64 (g:Int),.int .i64 (f:Int)] 33)) 35 (.slice none 0 0)
  rwa [show(w.alloc (.cells #[.int .i64 (i:Int),.int .i64 (g:Int),.int .i64 (f:Int)] 33)).heap.size=w.heap.size+1 by simp] at this
 have HV:=Lib.hid hv
 have HH:=Lib.hid (show Blk ((w.alloc (.cells #[.int .i64 (i:Int),.int .i64 (g:Int),.int .i64 (f:Int)] 33)).alloc (.cells #[.slice none 0 0] 35)) w.heap.size #[.int .i64 (i:Int),.int .i64 (g:Int),.int .i64 (f:Int)] 33 from Blk.alloc (Blk.new w _ _) _)
 clear hv hp he0
 go_enter Tryz.func40, Tryz.ntmps40
 go_wp2_with fail
 go_step3
 go_wp2_with fail
 generalize (w.alloc (.cells #[.int .i64 (i:Int),.int .i64 (g:Int),.int .i64 (f:Int)] 33)).alloc (.cells #[.slice none 0 0] 35)=w0 at *
 refine(HBG.out _).mono ?_
 rintro e1 w1 ⟨rfl,hb1⟩
 have HV1:=Lib.hid (HV.out.below hb1 HV.out.lt)
 have HH1:=Lib.hid (HH.out.ext hb1)
 have HB1:=Lib.hid (HW.out.trans (hb1.mono HW.out.size))
 clear hb1 HV HH HW
 go_wp2_with fail
 refine(HSC.out w1).mono ?_
 rintro e2 w2 ⟨⟨v2,rfl,hown2⟩,hb2⟩
 obtain⟨AF,cF,rfl,-,-⟩:=own_slice hown2
 have HRF:=Lib.hid (Rd.of_own hown2)
 have hob:=World.ownsRow.lt hown2
 have HOB:=Lib.hid (show ∀ad,AF=some ad->ad.block≠w.heap.size+1/\ad.block≠w2.heap.size from fun ad e=>by
  have h1:=hob ad.block (by rw[e];rfl)
  have h2:=HV1.out.lt
  omega)
 have HV2:=Lib.hid ((HV1.out.below hb2 HV1.out.lt).alloc (.cells #[.int .i64 0] 3))
 have HH2:=Lib.hid ((HH1.out.ext hb2).alloc (.cells #[.int .i64 0] 3))
 have HL2:=Lib.hid (Var.new w2 3 (.int .i64 0))
 have HB2:=Lib.hid (HB1.out.trans (hb2.mono HB1.out.size))
 have HB3:=Lib.hid (HB2.out.trans ((ext_alloc w2 (.cells #[.int .i64 0] 3)).mono HB2.out.size))
 have HS3:=Lib.hid (show w2.heap.size<=(w2.alloc (.cells #[.int .i64 0] 3)).heap.size by simp)
 have HS4:=Lib.hid (show w.heap.size<=w2.heap.size from HB2.out.size)
 have hnF:=HFL.out
 obtain⟨nF,hnF2⟩:∃nF,(frs s e0).length=nF:=⟨_,rfl⟩
 rw[hnF2] at HRF hnF ⊢
 have HNF:=Lib.hid hnF2
 have HBB:=Lib.hid (show w.heap.size+1<w2.heap.size from Nat.lt_of_lt_of_le HV1.out.lt hb2.size)
 clear hb2 hown2 hob hnF2 HV1 HH1 HFL
 go_wp2_with fail
 go_step3
 go_wp2_with fail
 have HRL:=Lib.hid (HRF.out.alloc (Nat.le_refl _) (.cells #[.int .i64 0] 3))
 generalize w2.alloc (.cells #[.int .i64 0] 3)=wL at *
 generalize w2.heap.size=b10 at *
 have HQ:=Lib.hid (show w.heap.size<=w.heap.size+1/\w.heap.size+1<wL.heap.size from⟨Nat.le_succ _,HV2.out.lt⟩)
 have HLT:=Lib.hid (show w.heap.size<w.heap.size+1 from Nat.lt_succ_self _)
 have HQ10:=Lib.hid (show b10<wL.heap.size from HL2.out.lt)
 generalize w.heap.size+1=b4 at *
 clear HRF HB2
 go_loopw [5,35] (fun s5 s35 wr=>∃(k e:Nat) (L:List Mt) (A:Option Addr) (n c:Nat),s35=.int .i64 (k:Int)/\s5=.int .i64 (e:Int)/\k<=nF/\Hid (Lp w wL wr b4 w.heap.size b10 i g f f e0 s A n c e k L)) (fun _ v _=>nF-(intOf v).toNat)
 case atStart=>exact⟨0,e0,[],none,0,0,by go_num,rfl,by omega,Lib.hid ⟨St_nil _ _,rfl,rfl,HV2.out,ownM_nil _ _,HH2.out,HL2.out,But2.refl _ _ _⟩⟩
 case round =>
  obtain⟨k,e,L,A,n,c,rfl,rfl,hk,HX⟩:=hrel
  by_cases hkn:k<nF
  ·obtain⟨hg,hx,hdr⟩:=HX.out.next (by rw[HNF.out];exact hkn)
   obtain⟨ad,hA,-,c0,c1,c2,c3⟩:=fr_at HRL.out hx HX.out.but HS3.out HOB.out
   have hgt:=GF_to hg
   have hbs:(fbody s e).size<=1000000:=by unfold fbody;rw[ByteArray.size_extract];omega
   have HME:=Lib.hid (fun wx=>meta_any (by4 s.data.toList e) (fbody s e) e (fto s e) wx hbs (by omega) (by omega))
   have HDE:=Lib.hid (fun wx=>Decode_any (fbody s e) wx hbs)
   have HFR:=Lib.hid (show fr s e=(by4 s.data.toList e,fbody s e,e,fto s e) from rfl)
   have HNX:=Lib.hid (And.intro hg (And.intro hdr (fun m=>(good_iff f L (fr s e) m).2)))
   have HGN:=Lib.hid (fun m=>(good_iff f L (fr s e) m).1)
   rw[HFR.out] at HNX HGN
   unfold fr at c0 c1 c2 c3
   dsimp only at c0 c1 c2 c3
   subst hA
   have HAL:=Lib.hid (ext_alloc wr (.cells #[.int .i64 (by4 s.data.toList e:Int),.string (fbody s e),.int .i64 (e:Int),.int .i64 (fto s e:Int)] 92))
   have HW1:=Lib.hid (HX.out.ext HAL.out)
   have HF1:=Lib.hid (show Fb (wr.alloc (.cells #[.int .i64 (by4 s.data.toList e:Int),.string (fbody s e),.int .i64 (e:Int),.int .i64 (fto s e:Int)] 92)) wr.heap.size (by4 s.data.toList e) (fbody s e) e (fto s e) from heap_alloc_new wr _)
   have HOW:=Lib.hid (show ∀k,(Value.slice A n c).ownBlock=some k->wL.heap.size<=k/\k<wr.heap.size from World.ownsRow.lt HX.out.own)
   have HBT:=Lib.hid (show wL.heap.size<=wr.heap.size from HX.out.but.size)
   have HST:=Lib.hid (show(GF s e->good f L (fr s e)=none)->Sn.rn f s [] e0=(L,e) from HX.out.stop)
   rw[HFR.out] at HST
   generalize by4 s.data.toList e=K at *
   generalize fbody s e=BD at *
   generalize hTO:fto s e=T at *
   have HTO:=Lib.hid hTO
   clear hTO
   clear hg hx hdr hgt hbs HX
   go_upto_block 1 with (fail)
   go_cut [5] from 36 to 67 (fun s5 wx=>s5=.int .i64 (T:Int)/\ ∃(L':List Mt) (A':Option Addr) (n' c':Nat),Hid (Lp w wL wx b4 w.heap.size b10 i g f f e0 s A' n' c' T (k+1) L'))
   case rest =>
    obtain⟨rfl,L',A',n',c',HP⟩:=hcut
    clear HME HDE HFR HNX HGN c0 c1 c2 c3 HAL HW1 HF1 HOW HBT HST HTO
    go_wp2_with fail
    go_roundw
    case rel=>exact⟨k+1,T,L',A',n',c',by go_num,rfl,by omega,HP⟩
    case measure=>simp[intOf];omega
   go_wp2_with fail
   generalize wr.alloc (.cells #[.int .i64 (K:Int),.string BD,.int .i64 (e:Int),.int .i64 (T:Int)] 92)=wA at *
   refine(HME.out _).mono ?_
   rintro e3 w3 ⟨ha,hb3⟩
   have HW3:=Lib.hid (HW1.out.ext hb3)
   have HF3:=Lib.hid (HF1.out.below hb3 HF1.out.lt)
   have HZ3:=Lib.hid (show wr.heap.size<=w3.heap.size from Nat.le_trans HAL.out.size hb3.size)
   clear HW1 HF1 hb3 HME c0 c1 c2 c3
   rcases ha with ⟨m,hm,rfl⟩|⟨hm,rfl⟩
   ·obtain⟨ma,ms,mr,mc,mf,me,ml⟩:=m
    have HAM:=Lib.hid (ext_alloc w3 (.cells #[.int .i64 (ma:Int),.int .i64 (ms:Int),.int .i64 (mr:Int),.int .i64 (mc:Int),.int .i64 (mf:Int),.int .i64 (me:Int),.int .i64 (ml:Int)] 39))
    have HW4:=Lib.hid (HW3.out.ext HAM.out)
    have HF4:=Lib.hid (HF3.out.below HAM.out HF3.out.lt)
    have HM4:=Lib.hid (show Mb (w3.alloc (.cells #[.int .i64 (ma:Int),.int .i64 (ms:Int),.int .i64 (mr:Int),.int .i64 (mc:Int),.int .i64 (mf:Int),.int .i64 (me:Int),.int .i64 (ml:Int)] 39)) w3.heap.size ma ms mr mc mf me ml from heap_alloc_new w3 _)
    have HGO:=Lib.hid (fun wx hk=>goes_any ⟨ma,ms,mr,mc,mf,me,ml⟩ b4 w.heap.size b10 i g f f A n c L wx rfl HW3.out.ok hk)
    have HMM:=Lib.hid hm
    unfold mv magg at HGO
    dsimp only at HGO
    unfold mv magg
    rcases hgo:goesB f L ⟨ma,ms,mr,mc,mf,me,ml⟩ with _|_
    ·rw[hgo] at HGO
     have HRN:=Lib.hid (HST.out (fun _=>by
      rcases hgd:good f L (K,BD,e,T) with _|m
      ·rfl
      ·obtain⟨h1,h2,-⟩:=HGN.out m hgd
       rw[HMM.out] at h1
       obtain rfl:=Option.some.inj h1
       rw[hgo] at h2;cases h2))
     have c0:=HM4.out.c0
     have c1:=HM4.out.c1
     have c2:=HM4.out.c2
     have c3:=HM4.out.c3
     have c4:=HM4.out.c4
     have c5:=HM4.out.c5
     have c6:=HM4.out.c6
     clear HW3 HF3 hm hgo HST HGN HNX
     go_wp2_with fail
     generalize w3.alloc (.cells #[.int .i64 (ma:Int),.int .i64 (ms:Int),.int .i64 (mr:Int),.int .i64 (mc:Int),.int .i64 (mf:Int),.int .i64 (me:Int),.int .i64 (ml:Int)] 39)=w4 at *
     refine(HGO.out _ HW4.out.kp.1).mono ?_
     rintro e5 w5 ⟨rfl,hb5⟩
     have HW:=Lib.hid (HW4.out.ext hb5)
     clear hb5 c0 c1 c2 c3 c4 c5 c6
     have HF:=Lib.hid (HW.out.fin HRN.out HT.out HB3.out HQ.out.1 HQ.out.2 HS4.out)
     have hc:=HW.out.row.cell
     have hf:=HW.out.row.frozen
     have hc2:=(HW.out.row.set_ (.slice A n c)).cell
     clear HW
     go_wp2_with fail
     try rw[Exit.noGoto_ret]
     refine bodyPost_ret (v:=.tuple #[.slice A n c,.int .i64 (e:Int),.int .i64 0]) (by simp[results,go_sem,hc2]) rfl ?_
     exact HF.out
    ·rw[hgo] at HGO
     have HGG:=Lib.hid hgo
     clear HW3 HF3 hm hgo
     go_wp2_with fail
     generalize w3.alloc (.cells #[.int .i64 (ma:Int),.int .i64 (ms:Int),.int .i64 (mr:Int),.int .i64 (mc:Int),.int .i64 (mf:Int),.int .i64 (me:Int),.int .i64 (ml:Int)] 39)=w4 at *
     refine(HGO.out _ HW4.out.kp.1).mono ?_
     rintro e5 w5 ⟨rfl,hb5⟩
     have HW5:=Lib.hid (HW4.out.ext hb5)
     have HF5:=Lib.hid (HF4.out.below hb5 HF4.out.lt)
     have HM5:=Lib.hid (HM4.out.below hb5 HM4.out.lt)
     have c1:=HF5.out.c1
     clear hb5 HW4 HF4 HM4
     go_wp2_with fail
     refine(HDE.out _).mono ?_
     rintro e6 w6 ⟨hd,hb6⟩
     have HW6:=Lib.hid (HW5.out.ext hb6)
     have HF6:=Lib.hid (HF5.out.below hb6 HF5.out.lt)
     have HM6:=Lib.hid (HM5.out.below hb6 HM5.out.lt)
     clear hb6 HW5 HF5 HM5 c1
     rcases hd with ⟨l6,v6,hd,rfl,-⟩|⟨hd,x,rfl,hx⟩
     ·have h0:=HW6.out
      have x4:=h0.row.cell
      have x4f:=h0.row.frozen
      have x10:=h0.lt.cell
      have x10f:=h0.lt.frozen
      have c0:=HM6.out.c0
      have c1:=HM6.out.c1
      have c2:=HM6.out.c2
      have c3:=HM6.out.c3
      have c4:=HM6.out.c4
      have c5:=HM6.out.c5
      have c6:=HM6.out.c6
      have d3:=HF6.out.c3
      have HLN:=Lib.hid (show L.length<=1000000 by have:=h0.st.2.1;omega)
      have hgen:=Lib.hid h0.own
      have HBS:=Lib.hid h0.but.size
      have H7:=Lib.hid (show ∀w7,w6.grownBy w7 (Value.slice A n c).ownBlock->Var w7 b4 35 (.slice A n c)/\Var w7 b10 3 (.int .i64 (lateM L:Int))/\Fb w7 wr.heap.size K BD e T/\Mb w7 w3.heap.size ma ms mr mc mf me ml from fun w7 hg =>
       ⟨h0.row.grown hg (fun e=>by have:=HOW.out _ e;have:=HQ.out.2;omega),h0.lt.grown hg (fun e=>by have:=HOW.out _ e;have:=HQ10.out;omega),HF6.out.grown hg (fun e=>by have:=HOW.out _ e;omega),(hg.block w3.heap.size HM6.out.lt (fun e=>by have:=HOW.out _ e.symm;have:=HZ3.out;omega)).trans HM6.out⟩)
      have hn1: ¬ b4=b10:=Nat.ne_of_lt HBB.out
      have hn2: ¬ b10=b4:=fun e=>hn1 e.symm
      have l4:=h0.row.lt
      have l10:=h0.lt.lt
      have lf:=HF6.out.lt
      have lm:=HM6.out.lt
      have HDD:=Lib.hid (show dec BD.data.toList=some l6 from hd)
      clear h0 hd
      have HFIN:=Lib.hid (show ∀w7 g7 cap,w6.grownBy w7 (Value.slice A n c).ownBlock->OwnM w7 wL.heap.size (.slice (some ⟨g7,0,none⟩) (L.length+1) cap) (L++[⟨ma,ms,mr,mc,mf,me,ml⟩]) ->
       Lp w wL ((w7.setCell ⟨b4,0,none⟩ (.slice (some ⟨g7,0,none⟩) (L.length+1) cap)).setCell ⟨b10,0,none⟩ (.int .i64 (ml:Int))) b4 w.heap.size b10 i g f f e0 s (some ⟨g7,0,none⟩) (L.length+1) cap T (k+1) (L++[⟨ma,ms,mr,mc,mf,me,ml⟩]) from fun w7 g7 cap hg hown=>by
        obtain⟨f4,f10,-,-⟩:=H7.out w7 hg
        have hgd:=HNX.out.2.2 ⟨ma,ms,mr,mc,mf,me,ml⟩ ⟨HMM.out,HGG.out,l6,HDD.out⟩
        obtain⟨hg1,hg2,-⟩:=HNX.out
        have hob:=World.ownsRow.lt hown
        refine⟨?_,?_,hg2,((f4.set_ _).far hn1 _),?_,?_,?_,?_⟩
        ·have:=St_step HW6.out.st hg1 (by rw[HFR.out];exact hgd)
         rwa [HTO.out] at this
        ·rw[<-HW6.out.rr,<-HTO.out];exact(rn_step hg1 (by rw[HFR.out];exact hgd)).symm
        ·exact own_setCell_far (own_setCell_far hown (fun e=>by have:=(hob _ e).1;have:=HQ.out.2;dsimp only at *;omega) _) (fun e=>by have:=(hob _ e).1;have:=HQ10.out;dsimp only at *;omega) _
        ·have h1:=hg.block w.heap.size (Array.getElem?_eq_some_iff.1 HW6.out.hd).1 (fun e=>by have:=(HOW.out _ e.symm).1;have:=HB3.out.size;have:=HQ.out.1;have:=HQ.out.2;omega)
         exact(Below.heap_setCell _ ⟨b10,0,none⟩ _ _ (by have:=HLT.out;have:=HBB.out;dsimp only;omega)).trans ((Below.heap_setCell _ ⟨b4,0,none⟩ _ _ (by have:=HLT.out;dsimp only;omega)).trans (h1.trans HW6.out.hd))
        ·rw[lateM_snoc];exact(f10.far hn2 _).set_ _
        ·exact((HW6.out.but.grown hg (fun q e=>(HOW.out q e).1)).set4 0 _).set10 0 _)
      have hLe:n=L.length:=HW6.out.kp.2
      clear HW6 HF6 HM6 HNX HGN HST HMM HGG HGO HDE hLe HT HB1 HB3 HS3 HS4 HQ HQ10 HLT HBB HRL HOB HNF hs h hse HV2 HH2 HL2 HFR HTO HOW HBT HAL HZ3 HAM HDD HSC HBG hnF
      go_wp2_with fail
      go_region_law (refine step_append7 (.tmp 60) (.tmp 62) ⟨ma,ms,mr,mc,mf,me,ml⟩ rfl rfl hgen.out HLN.out HBS.out (by simp[Act.eval]) (by simp[Act.eval]) ?_;intro g7 cap w7 hown7 hg7 hat7;have h7:=H7.out w7 hg7;have y4:=h7.1.cell;have y4f:=h7.1.frozen;have y10:=h7.2.1.cell;have y10f:=h7.2.1.frozen;have z3:=h7.2.2.1.c3;have z6:=h7.2.2.2.c6)
      all_goals
       have HP:=Lib.hid (HFIN.out w7 g7 cap hg7 hown7)
       clear h7 y4 y4f y10 y10f z3 z6 hown7 hg7 hat7 x4 x4f x10 x10f c0 c1 c2 c3 c4 c5 c6 d3 HFIN H7
       go_wp2_with fail
       go_meet
       case rel=>exact⟨rfl,_,_,_,_,HP⟩
     ·have HRN:=Lib.hid (HST.out (fun _=>by
       rcases hgd:good f L (K,BD,e,T) with _|m
       ·rfl
       ·obtain⟨-,-,r,h3⟩:=HGN.out m hgd
        have h4:dec BD.data.toList=some r:=h3
        rw[hd] at h4;cases h4))
      have HW:=HW6
      clear HW6 hd
      have HF:=Lib.hid (HW.out.fin HRN.out HT.out HB3.out HQ.out.1 HQ.out.2 HS4.out)
      have hc:=HW.out.row.cell
      have hf:=HW.out.row.frozen
      have hc2:=(HW.out.row.set_ (.slice A n c)).cell
      clear HW
      go_wp2_with fail
      try rw[Exit.noGoto_ret]
      refine bodyPost_ret (v:=.tuple #[.slice A n c,.int .i64 (e:Int),.int .i64 0]) (by simp[results,go_sem,hc2]) rfl ?_
      exact HF.out
   ·have HRN:=Lib.hid (HST.out (fun _=>by
     rcases hgd:good f L (K,BD,e,T) with _|m
     ·rfl
     ·have:=(HGN.out m hgd).1
      rw[hm] at this;cases this))
    have HW:=Lib.hid (HW3.out.ext (ext_alloc w3 (.cells #[.int .i64 0,.int .i64 0,.int .i64 0,.int .i64 0,.int .i64 0,.int .i64 0,.int .i64 0] 39)))
    clear HW3 HF3 hm HST HGN HNX
    unfold magg
    have HF:=Lib.hid (HW.out.fin HRN.out HT.out HB3.out HQ.out.1 HQ.out.2 HS4.out)
    have hc:=HW.out.row.cell
    have hf:=HW.out.row.frozen
    have hc2:=(HW.out.row.set_ (.slice A n c)).cell
    clear HW
    go_wp2_with fail
    try rw[Exit.noGoto_ret]
    refine bodyPost_ret (v:=.tuple #[.slice A n c,.int .i64 (e:Int),.int .i64 0]) (by simp[results,go_sem,hc2]) rfl ?_
    exact HF.out
  ·have HRN:=Lib.hid (HX.out.done (by rw[HNF.out];exact hkn))
   have HW:=HX
   clear HX
   have HF:=Lib.hid (HW.out.fin HRN.out HT.out HB3.out HQ.out.1 HQ.out.2 HS4.out)
   have hc:=HW.out.row.cell
   have hf:=HW.out.row.frozen
   have hc2:=(HW.out.row.set_ (.slice A n c)).cell
   clear HW
   go_wp2_with fail
   try rw[Exit.noGoto_ret]
   refine bodyPost_ret (v:=.tuple #[.slice A n c,.int .i64 (e:Int),.int .i64 0]) (by simp[results,go_sem,hc2]) rfl ?_
   exact HF.out
end Sn
end Go.Proofs.YtlnbjikooadmoaaGreat
