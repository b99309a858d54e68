/- scan.meta. scan.Tail: what lies in memory in its loop. scan.Tail. scan.Tail, where the header stands. scan.Load, where the block stands. scan: Tail at any header; Sealed. seg: Trim, where a tail is cut off. seg: Create where there is such a file; Create with a header that may not be; Size. seg: Read, Sync. strings.Builder beside other memory of the call's own: WriteString, String turn only what is the builder's. seg: laid. seg: laid, the walk. seg: Write, its steps. seg: Write. seg: Write, the walk. SegKeeps: what its parts come to, plainly. SegKeeps: a footer is short. The probe of scan, plainly: a header, one block. -/
import Derived.Test.YtlnbjikooadmoaaGreatKf51
import Derived.Test.YtlnbjikooadmoaaGreatKf50
import Derived.Test.YtlnbjikooadmoaaGreatKf48
import Derived.Deep.Cut
import Derived.Test.YtlnbjikooadmoaaGreatKf49
import Derived.WalkMore
import Derived.Deep.LoopGhost
import Derived.Deep.CutBlock
import Derived.BigQuiet
namespace Go.Proofs.YtlnbjikooadmoaaGreat
namespace Sn
open Go.RowKit Hd Fm Bk
def MfAns (x:Fr) (e:Ending):Prop:=(∃m,metaF x=some m/\e=.returned (.tuple #[mv m,.bool true]))∨(metaF x=none/\e=.returned (.tuple #[magg 0 0 0 0 0 0 0,.bool false]))
set_option maxHeartbeats 6400000 in
set_option maxRecDepth 100000 in
theorem meta_any (k:Nat) (b:ByteArray) (p t:Nat) (w:World) (hb:b.size<=1000000) (hp:p<=t) (ht:t<=1000000000) :
  Calls Tryz.prog 91 #[fagg k b p t] w fun e w'=>MfAns (k,b,p,t) e/\Below w.heap.size w w':=by
 have mixed:Tryz.prog.follows .mixedOrders=true:=by kernel_rfl
 have HI:=Lib.hid (show(Tryz.prog.info? 39).map (·.size)=some 7 by kernel_rfl);have HB:=Lib.hid ((ext_alloc w (.cells #[.int .i64 k,.string b,.int .i64 p,.int .i64 t] 92)).trans ((ext_alloc _ (.cells #[.int .i64 0,.int .i64 0,.int .i64 0,.int .i64 0,.int .i64 0,.int .i64 0,.int .i64 0] 39)).mono (by simp)));have M1:=Lib.hid (show Fb ((w.alloc (.cells #[.int .i64 k,.string b,.int .i64 p,.int .i64 t] 92)).alloc (.cells #[.int .i64 0,.int .i64 0,.int .i64 0,.int .i64 0,.int .i64 0,.int .i64 0,.int .i64 0] 39)) w.heap.size k b p t from
  (Below.heap_alloc _ _ _ (by simp)).trans (heap_alloc_new w _))
 have M2:=Lib.hid (show Mb ((w.alloc (.cells #[.int .i64 k,.string b,.int .i64 p,.int .i64 t] 92)).alloc (.cells #[.int .i64 0,.int .i64 0,.int .i64 0,.int .i64 0,.int .i64 0,.int .i64 0,.int .i64 0] 39)) (w.heap.size+1) 0 0 0 0 0 0 0 from by
  have hh:=Mb.new (w.alloc (.cells #[.int .i64 k,.string b,.int .i64 p,.int .i64 t] 92));rw[show(w.alloc (.cells #[.int .i64 k,.string b,.int .i64 p,.int .i64 t] 92)).heap.size=w.heap.size+1 by simp] at hh;exact hh)
 have HP:=Lib.hid (fun w=>Peek_any b w hb);unfold fagg
 go_enter Tryz.func91, Tryz.ntmps91
 go_wp2_with fail
 generalize (w.alloc (.cells #[.int .i64 k,.string b,.int .i64 p,.int .i64 t] 92)).alloc (.cells #[.int .i64 0,.int .i64 0,.int .i64 0,.int .i64 0,.int .i64 0,.int .i64 0,.int .i64 0] 39)=w0 at *
 refine(HP.out _).mono ?_;rintro e1 w1 ⟨ha,hb1⟩;have F1:=M1.out.below hb1 M1.out.lt;have G1:=M2.out.below hb1 M2.out.lt;have HB1:=Lib.hid (HB.out.trans (hb1.mono HB.out.size));have HL1:=Lib.hid (Nat.lt_of_lt_of_le M2.out.lt hb1.size);have l1:w.heap.size<w1.heap.size:=Nat.lt_of_lt_of_le M1.out.lt hb1.size;have l2:w.heap.size+1<w1.heap.size:=Nat.lt_of_lt_of_le M2.out.lt hb1.size;clear hb1;rcases ha with ⟨md,raw,count,first,early,late,r,hpk,rfl⟩|⟨hpk,x,rfl,hx⟩
 ·by_cases hk:k=2
  ·subst hk
   have HM:=Lib.hid (show metaF (2,b,p,t)=some ⟨p,t-p,raw,count,first,early,late⟩ by unfold metaF;rw[hpk];exact if_pos rfl);obtain⟨d,hd⟩:∃d:Nat,t-p=d:=⟨_,rfl⟩
   have b2:IntKind.i64.wrap ((t:Int)-(p:Int))=(d:Int):=by rw[IntKind.wrap_i64];omega
   rw[hd] at HM;clear hd;have F2:Fb (w1.alloc (.cells #[.int .i64 0,.int .i64 0,.int .i64 raw,.int .i64 count,.int .i64 first,.int .i64 early,.int .i64 late] 39)) w.heap.size 2 b p t:=F1.below (ext_alloc w1 _) l1;have G2:Mb (w1.alloc (.cells #[.int .i64 0,.int .i64 0,.int .i64 raw,.int .i64 count,.int .i64 first,.int .i64 early,.int .i64 late] 39)) (w.heap.size+1) 0 0 0 0 0 0 0:=G1.below (ext_alloc w1 _) l2;have HB2:=Lib.hid (HB1.out.trans ((ext_alloc w1 (.cells #[.int .i64 0,.int .i64 0,.int .i64 raw,.int .i64 count,.int .i64 first,.int .i64 early,.int .i64 late] 39)).mono HB1.out.size));have HL2:=Lib.hid (Nat.lt_of_lt_of_le l2 (ext_alloc w1 (.cells #[.int .i64 0,.int .i64 0,.int .i64 raw,.int .i64 count,.int .i64 first,.int .i64 early,.int .i64 late] 39)).size);have HW2:=Lib.hid (show Mb (w1.alloc (.cells #[.int .i64 0,.int .i64 0,.int .i64 raw,.int .i64 count,.int .i64 first,.int .i64 early,.int .i64 late] 39)) w1.heap.size 0 0 raw count first early late from heap_alloc_new w1 _);clear hpk HP F1 G1;unfold magg;go_upto_region 2 with (fail)
   generalize w1.alloc (.cells #[.int .i64 0,.int .i64 0,.int .i64 raw,.int .i64 count,.int .i64 first,.int .i64 early,.int .i64 late] 39)=w2 at *
   have HG2:=Lib.hid (show w.heap.size<=w.heap.size+1 from Nat.le_succ _);generalize w.heap.size+1=g2 at *
   have c0:=F2.c0;have c2:=F2.c2;have c3:=F2.c3;have s0:=HW2.out.c0;have s1:=HW2.out.c1;have y0:=HW2.out.fz 0;have y1:=HW2.out.fz 1;have HG:=Lib.hid (show Blk w2 g2 #[.int .i64 0,.int .i64 0,.int .i64 0,.int .i64 0,.int .i64 0,.int .i64 0,.int .i64 0] 39 from G2);have HL1:=Lib.hid (show w.heap.size<=w1.heap.size/\g2≠w1.heap.size from⟨Nat.le_of_lt l1,Nat.ne_of_lt l2⟩);clear F2 G2 l1 l2;go_wp2_with fail
   go_region
   have HX:=Lib.hid (show Blk (((w2.setCell ⟨w1.heap.size,0,none⟩ (.int .i64 (p:Int))).setCell ⟨w1.heap.size,1,none⟩ (.int .i64 (d:Int))).drew) w1.heap.size #[.int .i64 p,.int .i64 d,.int .i64 raw,.int .i64 count,.int .i64 first,.int .i64 early,.int .i64 late] 39 from(HW2.out.set0 p).set1 d);have HY:=Lib.hid (show Blk (((w2.setCell ⟨w1.heap.size,0,none⟩ (.int .i64 (p:Int))).setCell ⟨w1.heap.size,1,none⟩ (.int .i64 (d:Int))).drew) g2 #[.int .i64 0,.int .i64 0,.int .i64 0,.int .i64 0,.int .i64 0,.int .i64 0,.int .i64 0] 39 from(HG.out.setCell HL1.out.2 _).setCell HL1.out.2 _);have HB4:=Lib.hid (show Below w.heap.size w (((w2.setCell ⟨w1.heap.size,0,none⟩ (.int .i64 (p:Int))).setCell ⟨w1.heap.size,1,none⟩ (.int .i64 (d:Int))).drew) from((HB2.out.setCell (p:=⟨w1.heap.size,0,none⟩) HL1.out.1 _).setCell (p:=⟨w1.heap.size,1,none⟩) HL1.out.1 _).drew);generalize ((w2.setCell ⟨w1.heap.size,0,none⟩ (.int .i64 (p:Int))).setCell ⟨w1.heap.size,1,none⟩ (.int .i64 (d:Int))).drew=w4 at *
   go_wp2_with (first|(refine wpList_load_row rfl 39 (.tmp 4) rfl w1.heap.size #[.int .i64 p,.int .i64 d,.int .i64 raw,.int .i64 count,.int .i64 first,.int .i64 early,.int .i64 late] _ (by simp[go_sem,Act.eval]) HX.out Tryz.underlying39 rfl HI.out ?_)|(refine wpList_store_row rfl 39 (.tmp 2) (.tmp 29) rfl g2 #[.int .i64 p,.int .i64 d,.int .i64 raw,.int .i64 count,.int .i64 first,.int .i64 early,.int .i64 late] #[.int .i64 0,.int .i64 0,.int .i64 0,.int .i64 0,.int .i64 0,.int .i64 0,.int .i64 0] (by simp[go_sem,Act.eval]) (by simp[go_sem,Act.eval]) HY.out HI.out rfl (by simp[Value.oneCell']) ?_))
   refine bodyPost_ret (v:=.tuple #[mv ⟨p,d,raw,count,first,early,late⟩,.bool true]) (by exact results_cell2 rfl rfl rfl (HY.out.set #[.int .i64 p,.int .i64 d,.int .i64 raw,.int .i64 count,.int .i64 first,.int .i64 early,.int .i64 late]) Tryz.underlying39 rfl HI.out) (by exact rfl) ?_;exact⟨.inl ⟨_,HM.out,rfl⟩,ext_setRow HB4.out HG2.out _⟩
  ·have HM:=Lib.hid (show metaF (k,b,p,t)=none by unfold metaF;rw[hpk];exact if_neg hk)
   have F2:Fb (w1.alloc (.cells #[.int .i64 0,.int .i64 0,.int .i64 raw,.int .i64 count,.int .i64 first,.int .i64 early,.int .i64 late] 39)) w.heap.size k b p t:=F1.below (ext_alloc w1 _) l1;have G2:Mb (w1.alloc (.cells #[.int .i64 0,.int .i64 0,.int .i64 raw,.int .i64 count,.int .i64 first,.int .i64 early,.int .i64 late] 39)) (w.heap.size+1) 0 0 0 0 0 0 0:=G1.below (ext_alloc w1 _) l2;have HB2:=Lib.hid (HB1.out.trans ((ext_alloc w1 (.cells #[.int .i64 0,.int .i64 0,.int .i64 raw,.int .i64 count,.int .i64 first,.int .i64 early,.int .i64 late] 39)).mono HB1.out.size));have HL2:=Lib.hid (Nat.lt_of_lt_of_le l2 (ext_alloc w1 (.cells #[.int .i64 0,.int .i64 0,.int .i64 raw,.int .i64 count,.int .i64 first,.int .i64 early,.int .i64 late] 39)).size);clear hpk HP F1 G1;unfold magg;go_upto_region 2 with (fail)
   generalize w1.alloc (.cells #[.int .i64 0,.int .i64 0,.int .i64 raw,.int .i64 count,.int .i64 first,.int .i64 early,.int .i64 late] 39)=w2 at *
   have HG2:=Lib.hid (show w.heap.size<=w.heap.size+1 from Nat.le_succ _);generalize w.heap.size+1=g2 at *
   have c0:=F2.c0;have c2:=F2.c2;have c3:=F2.c3;have HG:=Lib.hid (show Blk w2 g2 #[.int .i64 0,.int .i64 0,.int .i64 0,.int .i64 0,.int .i64 0,.int .i64 0,.int .i64 0] 39 from G2);clear F2 G2 l1 l2;go_wp2_with (first|(refine wpList_store_row rfl 39 (.tmp 2) (.tmp 19) rfl g2 #[.int .i64 0,.int .i64 0,.int .i64 0,.int .i64 0,.int .i64 0,.int .i64 0,.int .i64 0] #[.int .i64 0,.int .i64 0,.int .i64 0,.int .i64 0,.int .i64 0,.int .i64 0,.int .i64 0] (by simp[go_sem,Act.eval]) (by simp[go_sem,Act.eval]) HG.out HI.out rfl (by simp[Value.oneCell']) ?_))
   refine bodyPost_ret (v:=.tuple #[magg 0 0 0 0 0 0 0,.bool false]) (by exact results_cell2 rfl rfl rfl (HG.out.set #[.int .i64 0,.int .i64 0,.int .i64 0,.int .i64 0,.int .i64 0,.int .i64 0,.int .i64 0]) Tryz.underlying39 rfl HI.out) (by exact rfl) ?_;exact⟨.inr ⟨HM.out,rfl⟩,ext_setRow HB2.out HG2.out _⟩
 ·have HM:=Lib.hid (show metaF (k,b,p,t)=none by unfold metaF;rw[hpk])
  by_cases hk:k=2
  ·subst hk
   have F2:Fb (w1.alloc (.cells #[.int .i64 0,.int .i64 0,.int .i64 0,.int .i64 0,.int .i64 0,.int .i64 0,.int .i64 0] 39)) w.heap.size 2 b p t:=F1.below (ext_alloc w1 _) l1;have G2:Mb (w1.alloc (.cells #[.int .i64 0,.int .i64 0,.int .i64 0,.int .i64 0,.int .i64 0,.int .i64 0,.int .i64 0] 39)) (w.heap.size+1) 0 0 0 0 0 0 0:=G1.below (ext_alloc w1 _) l2;have HB2:=Lib.hid (HB1.out.trans ((ext_alloc w1 (.cells #[.int .i64 0,.int .i64 0,.int .i64 0,.int .i64 0,.int .i64 0,.int .i64 0,.int .i64 0] 39)).mono HB1.out.size));have HL2:=Lib.hid (Nat.lt_of_lt_of_le l2 (ext_alloc w1 (.cells #[.int .i64 0,.int .i64 0,.int .i64 0,.int .i64 0,.int .i64 0,.int .i64 0,.int .i64 0] 39)).size);clear hpk HP F1 G1;unfold magg;go_upto_region 2 with (fail)
   generalize w1.alloc (.cells #[.int .i64 0,.int .i64 0,.int .i64 0,.int .i64 0,.int .i64 0,.int .i64 0,.int .i64 0] 39)=w2 at *
   have HG2:=Lib.hid (show w.heap.size<=w.heap.size+1 from Nat.le_succ _);generalize w.heap.size+1=g2 at *
   have c0:=F2.c0;have c2:=F2.c2;have c3:=F2.c3;have HG:=Lib.hid (show Blk w2 g2 #[.int .i64 0,.int .i64 0,.int .i64 0,.int .i64 0,.int .i64 0,.int .i64 0,.int .i64 0] 39 from G2);clear F2 G2 l1 l2;go_wp2_with (first|(refine wpList_store_row rfl 39 (.tmp 2) (.tmp 19) rfl g2 #[.int .i64 0,.int .i64 0,.int .i64 0,.int .i64 0,.int .i64 0,.int .i64 0,.int .i64 0] #[.int .i64 0,.int .i64 0,.int .i64 0,.int .i64 0,.int .i64 0,.int .i64 0,.int .i64 0] (by simp[go_sem,Act.eval]) (by simp[go_sem,Act.eval]) HG.out HI.out rfl (by simp[Value.oneCell']) ?_))
   refine bodyPost_ret (v:=.tuple #[magg 0 0 0 0 0 0 0,.bool false]) (by exact results_cell2 rfl rfl rfl (HG.out.set #[.int .i64 0,.int .i64 0,.int .i64 0,.int .i64 0,.int .i64 0,.int .i64 0,.int .i64 0]) Tryz.underlying39 rfl HI.out) (by exact rfl) ?_;exact⟨.inr ⟨HM.out,rfl⟩,ext_setRow HB2.out HG2.out _⟩
  ·skip
   have F2:Fb (w1.alloc (.cells #[.int .i64 0,.int .i64 0,.int .i64 0,.int .i64 0,.int .i64 0,.int .i64 0,.int .i64 0] 39)) w.heap.size k b p t:=F1.below (ext_alloc w1 _) l1;have G2:Mb (w1.alloc (.cells #[.int .i64 0,.int .i64 0,.int .i64 0,.int .i64 0,.int .i64 0,.int .i64 0,.int .i64 0] 39)) (w.heap.size+1) 0 0 0 0 0 0 0:=G1.below (ext_alloc w1 _) l2;have HB2:=Lib.hid (HB1.out.trans ((ext_alloc w1 (.cells #[.int .i64 0,.int .i64 0,.int .i64 0,.int .i64 0,.int .i64 0,.int .i64 0,.int .i64 0] 39)).mono HB1.out.size));have HL2:=Lib.hid (Nat.lt_of_lt_of_le l2 (ext_alloc w1 (.cells #[.int .i64 0,.int .i64 0,.int .i64 0,.int .i64 0,.int .i64 0,.int .i64 0,.int .i64 0] 39)).size);clear hpk HP F1 G1;unfold magg;go_upto_region 2 with (fail)
   generalize w1.alloc (.cells #[.int .i64 0,.int .i64 0,.int .i64 0,.int .i64 0,.int .i64 0,.int .i64 0,.int .i64 0] 39)=w2 at *
   have HG2:=Lib.hid (show w.heap.size<=w.heap.size+1 from Nat.le_succ _);generalize w.heap.size+1=g2 at *
   have c0:=F2.c0;have c2:=F2.c2;have c3:=F2.c3;have HG:=Lib.hid (show Blk w2 g2 #[.int .i64 0,.int .i64 0,.int .i64 0,.int .i64 0,.int .i64 0,.int .i64 0,.int .i64 0] 39 from G2);clear F2 G2 l1 l2;go_wp2_with (first|(refine wpList_store_row rfl 39 (.tmp 2) (.tmp 19) rfl g2 #[.int .i64 0,.int .i64 0,.int .i64 0,.int .i64 0,.int .i64 0,.int .i64 0,.int .i64 0] #[.int .i64 0,.int .i64 0,.int .i64 0,.int .i64 0,.int .i64 0,.int .i64 0,.int .i64 0] (by simp[go_sem,Act.eval]) (by simp[go_sem,Act.eval]) HG.out HI.out rfl (by simp[Value.oneCell']) ?_))
   refine bodyPost_ret (v:=.tuple #[magg 0 0 0 0 0 0 0,.bool false]) (by exact results_cell2 rfl rfl rfl (HG.out.set #[.int .i64 0,.int .i64 0,.int .i64 0,.int .i64 0,.int .i64 0,.int .i64 0,.int .i64 0]) Tryz.underlying39 rfl HI.out) (by exact rfl) ?_;exact⟨.inr ⟨HM.out,rfl⟩,ext_setRow HB2.out HG2.out _⟩
end Sn
end Go.Proofs.YtlnbjikooadmoaaGreat
namespace Go.Proofs.YtlnbjikooadmoaaGreat
namespace Sn
open Go.RowKit Hd Fm Bk
structure But2 (b4 b10:Nat) (w w':World):Prop where
 os:w'.os=w.os
 tape:w'.tape=w.tape
 output:w'.output=w.output
 size:w.heap.size<=w'.heap.size
 block:∀k,k<w.heap.size->k≠b4->k≠b10->w'.heap[k]? =w.heap[k]?
section
variable {b4 b10:Nat} {w w' w'':World}
theorem But2.refl (b4 b10:Nat) (w:World):But2 b4 b10 w w:=⟨rfl,rfl,rfl,Nat.le_refl _,fun _ _ _ _=>rfl⟩
theorem But2.ext (h:But2 b4 b10 w w') (hb:Below w'.heap.size w' w''):But2 b4 b10 w w'' :=
 ⟨hb.os.trans h.os,hb.tape.trans h.tape,hb.output.trans h.output,Nat.le_trans h.size hb.size,fun k hk h4 h10=>(hb.block k (Nat.lt_of_lt_of_le hk h.size)).trans (h.block k hk h4 h10)⟩
theorem But2.grown (h:But2 b4 b10 w w') {row:Option Nat} (hg:w'.grownBy w'' row) (hr:∀k,row=some k->w.heap.size<=k):But2 b4 b10 w w'' :=
 ⟨hg.os.trans h.os,hg.tape.trans h.tape,hg.output.trans h.output,Nat.le_trans h.size hg.size,fun k hk h4 h10=>(hg.block k (Nat.lt_of_lt_of_le hk h.size) (fun e=>by have:=hr k e.symm;omega)).trans (h.block k hk h4 h10)⟩
theorem But2.set4 (h:But2 b4 b10 w w') (j:Nat) (v:Value):But2 b4 b10 w (w'.setCell ⟨b4,j,none⟩ v) :=
 ⟨h.os,h.tape,h.output,by simpa using h.size,fun k hk h4 h10=>(Below.heap_setCell w' ⟨b4,j,none⟩ v k h4).trans (h.block k hk h4 h10)⟩
theorem But2.set10 (h:But2 b4 b10 w w') (j:Nat) (v:Value):But2 b4 b10 w (w'.setCell ⟨b10,j,none⟩ v) :=
 ⟨h.os,h.tape,h.output,by simpa using h.size,fun k hk h4 h10=>(Below.heap_setCell w' ⟨b10,j,none⟩ v k h10).trans (h.block k hk h4 h10)⟩
theorem But2.drew (h:But2 b4 b10 w w'):But2 b4 b10 w w'.drew:=⟨h.os,h.tape,h.output,h.size,h.block⟩
theorem But2.below (h:But2 b4 b10 w w') {w0:World} {B:Nat} (hb:Below B w0 w) (h4:B<=b4) (h10:B<=b10) (hB:B<=w.heap.size):Below B w0 w' :=
 ⟨h.os.trans hb.os,h.tape.trans hb.tape,h.output.trans hb.output,Nat.le_trans hb.size h.size,fun k hk=>(h.block k (Nat.lt_of_lt_of_le hk hB) (by omega) (by omega)).trans (hb.block k hk)⟩
theorem But2.cell (h:But2 b4 b10 w w') {a:Addr} {v:Value} (ha:a.block<w.heap.size) (h4:a.block≠b4) (h10:a.block≠b10) (hc:w.cell? a=some v):w'.cell? a=some v:=by
 have:=h.block a.block ha h4 h10;unfold World.cell? at hc ⊢;rw[this];exact hc
end
theorem length_flF (l:List Fr):(flF l).length=l.length*4:=by
 induction l with
 |nil=>rfl
 |cons x l ih=>show(clF x++flF l).length=_;rw[List.length_append,ih,List.length_cons];show 4+_=_;omega
theorem flF_at:∀(l:List Fr) (k:Nat) (x:Fr),l[k]? =some x-> ∀j,j<4->(flF l)[k*4+j]? =(clF x)[j]?
 | [],k,x,h,_,_=>by simp at h
 |y::l,0,x,h,j,hj=>by
  simp only[List.getElem?_cons_zero,Option.some.injEq] at h;subst h;show(clF y++flF l)[0*4+j]? =_
  rw[Nat.zero_mul,Nat.zero_add,List.getElem?_append_left (by simpa[clF] using hj)]
 |y::l,k+1,x,h,j,hj=>by
  have:=flF_at l k x (by simpa using h) j hj;show(clF y++flF l)[(k+1)*4+j]? =_
  rw[List.getElem?_append_right (by simp[clF];omega),<-this];congr 1;simp[clF];omega
theorem fr_at {w w':World} {b4 b10 B n k:Nat} {A:Option Addr} {l:List Fr} {x:Fr} (h:Rd w B 4 A n (flF l)) (hk:l[k]? =some x) (hb:But2 b4 b10 w w') (hB:B<=w.heap.size) (hA:∀ad,A=some ad->ad.block≠b4/\ad.block≠b10) :
  ∃ad,A=some ad/\k<n/\w'.cell? (ad.add (k*4))=some (.int .i64 (x.1:Int))/\w'.cell? ⟨(ad.add (k*4)).block,(ad.add (k*4)).off+1,none⟩=some (.string x.2.1) /\
   w'.cell? ⟨(ad.add (k*4)).block,(ad.add (k*4)).off+2,none⟩=some (.int .i64 (x.2.2.1:Int))/\w'.cell? ⟨(ad.add (k*4)).block,(ad.add (k*4)).off+3,none⟩=some (.int .i64 (x.2.2.2:Int)):=by
 have hl:l.length=n:=by have:=h.len;rw[length_flF] at this;omega
 have hkn:k<n:=by rw[<-hl];exact(List.getElem?_eq_some_iff.1 hk).1
 obtain⟨ad,e,hbk,hc⟩:=h.cells (by omega);obtain⟨h4,h10⟩:=hA ad e;have hf:=flF_at l k x hk;have hg:∀j v,j<4->(clF x)[j]? =some v->w'.cell? (ad.add (k*4+j))=some v:=fun j v hj hv =>
  hb.cell (by rw[add_block];omega) (by rw[add_block];exact h4) (by rw[add_block];exact h10) (hc _ _ ((hf j hj).trans hv))
 have ha:∀j,ad.add (k*4+(j+1))=⟨(ad.add (k*4)).block,(ad.add (k*4)).off+(j+1),none⟩:=fun j=>by rw[<-add_add];rfl
 refine⟨ad,e,hkn,hg 0 _ (by omega) rfl,?_,?_,?_⟩
 ·rw[<-ha];exact hg 1 _ (by omega) rfl
 ·rw[<-ha];exact hg 2 _ (by omega) rfl
 ·rw[<-ha];exact hg 3 _ (by omega) rfl
structure Lp (w wL wr:World) (b4 b3 b10:Nat) (i g f:Int) (h1 e0:Nat) (s:ByteArray) (A:Option Addr) (n c e k:Nat) (L:List Mt):Prop where
 st:St e0 s L e
 rr:Sn.rn h1 s L e=Sn.rn h1 s [] e0
 fs:(frs s e0).drop k=frs s e
 row:Var wr b4 35 (.slice A n c)
 own:OwnM wr wL.heap.size (.slice A n c) L
 hd:wr.heap[b3]? =some (.cells #[.int .i64 i,.int .i64 g,.int .i64 f] 33 (0,0))
 lt:Var wr b10 3 (.int .i64 (lateM L:Int))
 but:But2 b4 b10 wL wr
theorem Lp.kp {w wL wr:World} {b4 b3 b10:Nat} {i g f:Int} {h1 e0:Nat} {s:ByteArray} {A:Option Addr} {n c e k:Nat} {L:List Mt} (h:Lp w wL wr b4 b3 b10 i g f h1 e0 s A n c e k L):Kp wr b4 b3 b10 i g f A n c (lateM L) L/\n=L.length:=by
 obtain⟨A',c',e1,-,-,hr⟩:=h.own.rd;cases e1
 exact⟨⟨h.row,h.hd,h.lt,hr⟩,rfl⟩
theorem Lp.ok {w wL wr:World} {b4 b3 b10:Nat} {i g f:Int} {h1 e0:Nat} {s:ByteArray} {A:Option Addr} {n c e k:Nat} {L:List Mt} (h:Lp w wL wr b4 b3 b10 i g f h1 e0 s A n c e k L):okBl L=true:=by
 unfold okBl;rw[h.st.1,decide_eq_true h.st.2.1];rfl
theorem Lp.ext {w wL wr wr':World} {b4 b3 b10:Nat} {i g f:Int} {h1 e0:Nat} {s:ByteArray} {A:Option Addr} {n c e k:Nat} {L:List Mt} (h:Lp w wL wr b4 b3 b10 i g f h1 e0 s A n c e k L) (hb:Below wr.heap.size wr wr'):Lp w wL wr' b4 b3 b10 i g f h1 e0 s A n c e k L :=
 ⟨h.st,h.rr,h.fs,h.row.below hb h.row.lt,h.own.below hb (Nat.le_refl _),(hb.block b3 (Array.getElem?_eq_some_iff.1 h.hd).1).trans h.hd,h.lt.below hb h.lt.lt,h.but.ext hb⟩
theorem Lp.next {w wL wr:World} {b4 b3 b10:Nat} {i g f:Int} {h1 e0:Nat} {s:ByteArray} {A:Option Addr} {n c e k:Nat} {L:List Mt} (h:Lp w wL wr b4 b3 b10 i g f h1 e0 s A n c e k L) (hk:k<(frs s e0).length) :
  GF s e/\(frs s e0)[k]? =some (fr s e)/\(frs s e0).drop (k+1)=frs s (fto s e):=by
 have hd:=List.drop_eq_getElem_cons hk;have hfs:=h.fs;rw[hd] at hfs;by_cases hg:GF s e
 ·rw[frs_yes hg] at hfs
  injection hfs with h1 h2
  exact⟨hg,by rw[List.getElem?_eq_getElem hk,h1],h2⟩
 ·rw[frs_no hg] at hfs;cases hfs
theorem Lp.stop {w wL wr:World} {b4 b3 b10:Nat} {i g f:Int} {h1 e0:Nat} {s:ByteArray} {A:Option Addr} {n c e k:Nat} {L:List Mt} (h:Lp w wL wr b4 b3 b10 i g f h1 e0 s A n c e k L) (hn:GF s e->good h1 L (fr s e)=none):rn h1 s [] e0=(L,e):=by
 rw[<-h.rr,rn_stop hn]
theorem Lp.done {w wL wr:World} {b4 b3 b10:Nat} {i g f:Int} {h1 e0:Nat} {s:ByteArray} {A:Option Addr} {n c e k:Nat} {L:List Mt} (h:Lp w wL wr b4 b3 b10 i g f h1 e0 s A n c e k L) (hk: ¬ k<(frs s e0).length):rn h1 s [] e0=(L,e):=by
 refine h.stop fun hg=>?_
 have:=h.fs;rw[List.drop_eq_nil_of_le (by omega),frs_yes hg] at this;cases this
def tl (s:ByteArray) (i g f:Int):Option (List Mt×Nat) :=
 if okH i g f=true/\preB s (hdrB i.toNat g.toNat f.toNat)=true then some (rn f.toNat s [] (hdrB i.toNat g.toNat f.toNat).size) else none
def TlAns (s:ByteArray) (i g f:Int) (w:World) (e:Ending) (w':World):Prop :=
 (∃L E v,tl s i g f=some (L,E)/\e=.returned (.tuple #[v,.int .i64 (E:Int),.int .i64 0])/\OwnM w' w.heap.size v L) ∨
 (tl s i g f=none/\e=.returned (.tuple #[.slice none 0 0,.int .i64 0,.int .i64 210]))
end Sn
end Go.Proofs.YtlnbjikooadmoaaGreat
namespace Go.Proofs.YtlnbjikooadmoaaGreat
namespace Sn
open Go.RowKit Hd Fm Bk
set_option maxHeartbeats 3200000 in
set_option maxRecDepth 100000 in
theorem tail_no (s:ByteArray) (i g f:Int) (w:World) (h:tl s i g f=none) :
  Calls Tryz.prog 40 #[.string s,.agg #[.int .i64 i,.int .i64 g,.int .i64 f]] w fun e w'=>TlAns s i g f w e w'/\Below w.heap.size w w':=by
 have mixed:Tryz.prog.follows .mixedOrders=true:=by kernel_rfl
 have hb:∀wx,Calls Tryz.prog 87 #[.string s,.agg #[.int .i64 i,.int .i64 g,.int .i64 f]] wx fun e w'=>e=.returned (.tuple #[.int .i64 0,.bool false])/\Below wx.heap.size wx w':=by
  intro wx;rcases hk:okH i g f with _|_
  ·exact begun_no s i g f wx hk
  ·have hh:1<=i/\i<=999999/\1<=g/\g<=999999/\1<=f/\f<=1000000000:=by simpa[okH] using hk
   obtain⟨i',rfl⟩:∃n:Nat,i=n:=⟨i.toNat,by omega⟩
   obtain⟨g',rfl⟩:∃n:Nat,g=n:=⟨g.toNat,by omega⟩
   obtain⟨f',rfl⟩:∃n:Nat,f=n:=⟨f.toNat,by omega⟩
   have hp:preB s (hdrB i' g' f')=false:=by
    rcases hp:preB s (hdrB i' g' f') with _|_
    ·rfl
    ·unfold tl at h
     rw[if_pos ⟨hk,by simpa using hp⟩] at h;cases h
   exact begun_ok s i' g' f' wx (by omega) hp
 have HB:=Lib.hid hb;have HT:=Lib.hid h;have HW:=Lib.hid ((ext_alloc w (.cells #[.int .i64 i,.int .i64 g,.int .i64 f] 33)).trans ((ext_alloc _ (.cells #[.slice none 0 0] 35)).mono (by simp)));have hv:Var ((w.alloc (.cells #[.int .i64 i,.int .i64 g,.int .i64 f] 33)).alloc (.cells #[.slice none 0 0] 35)) (w.heap.size+1) 35 (.slice none 0 0):=by
  have:=Var.new (w.alloc (.cells #[.int .i64 i,.int .i64 g,.int .i64 f] 33)) 35 (.slice none 0 0)
  rwa [show(w.alloc (.cells #[.int .i64 i,.int .i64 g,.int .i64 f] 33)).heap.size=w.heap.size+1 by simp] at this
 have HV:=Lib.hid hv;clear hb h hv
 go_enter Tryz.func40, Tryz.ntmps40
 go_wp2_with fail
 go_step3
 go_wp2_with fail
 generalize (w.alloc (.cells #[.int .i64 i,.int .i64 g,.int .i64 f] 33)).alloc (.cells #[.slice none 0 0] 35)=w0 at *
 refine(HB.out _).mono ?_;rintro e1 w1 ⟨rfl,hb1⟩;have HV1:=Lib.hid (HV.out.below hb1 HV.out.lt);have HB1:=Lib.hid (HW.out.trans (hb1.mono HW.out.size));have hc:=HV1.out.cell;have hf:=HV1.out.frozen;clear hb1;go_wp2_with fail
 try rw[Exit.noGoto_ret]
 refine bodyPost_ret (v:=.tuple #[.slice none 0 0,.int .i64 0,.int .i64 210]) (by simp[results,go_sem,hc]) rfl ?_;exact⟨.inr ⟨HT.out,rfl⟩,HB1.out.setCell (p:=⟨w.heap.size+1,0,none⟩) (Nat.le_succ _) _⟩
end Sn
end Go.Proofs.YtlnbjikooadmoaaGreat
namespace Go.Proofs.YtlnbjikooadmoaaGreat
namespace Sn
open Go.RowKit Hd Fm Bk
theorem tl_yes {s:ByteArray} {i g f:Nat} (h:1<=i/\i<=999999/\1<=g/\g<=999999/\1<=f/\f<=1000000000) (hp:preB s (hdrB i g f)=true):tl s i g f=some (rn f s [] (hdrB i g f).size):=by
 unfold tl;rw[if_pos ⟨by unfold okH;rw[decide_eq_true_eq];omega,by simpa using hp⟩];simp
theorem pre_size {s p:ByteArray} (h:preB s p=true):p.size<=s.size:=by
 have:=congrArg ByteArray.size ((preB_iff s p).1 h);rw[ByteArray.size_extract] at this;omega
theorem Lp.fin {w wL wx:World} {b4 b3 b10:Nat} {i g f:Int} {h1 e0:Nat} {s:ByteArray} {A:Option Addr} {n c e k:Nat} {L:List Mt} (h:Lp w wL wx b4 b3 b10 i g f h1 e0 s A n c e k L) (hr:Sn.rn h1 s [] e0=(L,e)) (ht:tl s i g f=some (Sn.rn h1 s [] e0))
  (hB:Below w.heap.size w wL) (h4:w.heap.size<=b4) (h4':b4<wL.heap.size) (h10:w.heap.size<=b10) :
  TlAns s i g f w (.returned (.tuple #[.slice A n c,.int .i64 (e:Int),.int .i64 0])) (wx.setCell ⟨b4,0,none⟩ (.slice A n c))/\Below w.heap.size w (wx.setCell ⟨b4,0,none⟩ (.slice A n c)):=by
 refine⟨.inl ⟨L,e,_,by rw[ht,hr],rfl,?_⟩,(h.but.set4 0 _).below hB h4 h10 hB.size⟩;exact own_setCell_far (own_lower h.own hB.size) (fun e=>by have:=(World.ownsRow.lt h.own _ e).1;dsimp only at this;omega) _
set_option maxHeartbeats 6400000 in
set_option maxRecDepth 100000 in
theorem tail_yes (s:ByteArray) (i g f:Nat) (w:World) (hs:s.size<=1000000) (h:1<=i/\i<=999999/\1<=g/\g<=999999/\1<=f/\f<=1000000000) (hp:preB s (hdrB i g f)=true) :
  Calls Tryz.prog 40 #[.string s,.agg #[.int .i64 (i:Int),.int .i64 (g:Int),.int .i64 (f:Int)]] w fun e w'=>TlAns s i g f w e w'/\Below w.heap.size w w':=by
 have mixed:Tryz.prog.follows .mixedOrders=true:=by kernel_rfl
 have HT:=Lib.hid (tl_yes h hp);have hse:=pre_size hp;have HBG:=Lib.hid (fun wx=>begun_ok s i g f wx h hp);simp only[if_true] at HBG;obtain⟨e0,he0⟩:∃e0,(hdrB i g f).size=e0:=⟨_,rfl⟩
 rw[he0] at HT hse HBG;have HSC:=Lib.hid (fun wx=>scan_any s e0 wx hs (by omega));have HFL:=Lib.hid (frs_len s e0 hs);have HW:=Lib.hid ((ext_alloc w (.cells #[.int .i64 (i:Int),.int .i64 (g:Int),.int .i64 (f:Int)] 33)).trans ((ext_alloc _ (.cells #[.slice none 0 0] 35)).mono (by simp)));have hv:Var ((w.alloc (.cells #[.int .i64 (i:Int),.int .i64 (g:Int),.int .i64 (f:Int)] 33)).alloc (.cells #[.slice none 0 0] 35)) (w.heap.size+1) 35 (.slice none 0 0):=by
  have:=Var.new (w.alloc (.cells #[.int .i64 (i:Int),.int .i64 (g:Int),.int .i64 (f:Int)] 33)) 35 (.slice none 0 0)
  rwa [show(w.alloc (.cells #[.int .i64 (i:Int),.int .i64 (g:Int),.int .i64 (f:Int)] 33)).heap.size=w.heap.size+1 by simp] at this
 have HV:=Lib.hid hv;have HH:=Lib.hid (show Blk ((w.alloc (.cells #[.int .i64 (i:Int),.int .i64 (g:Int),.int .i64 (f:Int)] 33)).alloc (.cells #[.slice none 0 0] 35)) w.heap.size #[.int .i64 (i:Int),.int .i64 (g:Int),.int .i64 (f:Int)] 33 from Blk.alloc (Blk.new w _ _) _);clear hv hp he0
 go_enter Tryz.func40, Tryz.ntmps40
 go_wp2_with fail
 go_step3
 go_wp2_with fail
 generalize (w.alloc (.cells #[.int .i64 (i:Int),.int .i64 (g:Int),.int .i64 (f:Int)] 33)).alloc (.cells #[.slice none 0 0] 35)=w0 at *
 refine(HBG.out _).mono ?_;rintro e1 w1 ⟨rfl,hb1⟩;have HV1:=Lib.hid (HV.out.below hb1 HV.out.lt);have HH1:=Lib.hid (HH.out.ext hb1);have HB1:=Lib.hid (HW.out.trans (hb1.mono HW.out.size));clear hb1 HV HH HW;go_wp2_with fail
 refine(HSC.out w1).mono ?_;rintro e2 w2 ⟨⟨v2,rfl,hown2⟩,hb2⟩;obtain⟨AF,cF,rfl,-,-⟩:=own_slice hown2;have HRF:=Lib.hid (Rd.of_own hown2);have hob:=World.ownsRow.lt hown2;have HOB:=Lib.hid (show ∀ad,AF=some ad->ad.block≠w.heap.size+1/\ad.block≠w2.heap.size from fun ad e=>by
  have h1:=hob ad.block (by rw[e];rfl);have h2:=HV1.out.lt;omega)
 have HV2:=Lib.hid ((HV1.out.below hb2 HV1.out.lt).alloc (.cells #[.int .i64 0] 3));have HH2:=Lib.hid ((HH1.out.ext hb2).alloc (.cells #[.int .i64 0] 3));have HL2:=Lib.hid (Var.new w2 3 (.int .i64 0));have HB2:=Lib.hid (HB1.out.trans (hb2.mono HB1.out.size));have HB3:=Lib.hid (HB2.out.trans ((ext_alloc w2 (.cells #[.int .i64 0] 3)).mono HB2.out.size));have HS3:=Lib.hid (show w2.heap.size<=(w2.alloc (.cells #[.int .i64 0] 3)).heap.size by simp);have HS4:=Lib.hid (show w.heap.size<=w2.heap.size from HB2.out.size);have hnF:=HFL.out;obtain⟨nF,hnF2⟩:∃nF,(frs s e0).length=nF:=⟨_,rfl⟩
 rw[hnF2] at HRF hnF ⊢;have HNF:=Lib.hid hnF2;have HBB:=Lib.hid (show w.heap.size+1<w2.heap.size from Nat.lt_of_lt_of_le HV1.out.lt hb2.size);clear hb2 hown2 hob hnF2 HV1 HH1 HFL;go_wp2_with fail
 go_step3
 go_wp2_with fail
 have HRL:=Lib.hid (HRF.out.alloc (Nat.le_refl _) (.cells #[.int .i64 0] 3));generalize w2.alloc (.cells #[.int .i64 0] 3)=wL at *
 generalize w2.heap.size=b10 at *
 have HQ:=Lib.hid (show w.heap.size<=w.heap.size+1/\w.heap.size+1<wL.heap.size from⟨Nat.le_succ _,HV2.out.lt⟩);have HLT:=Lib.hid (show w.heap.size<w.heap.size+1 from Nat.lt_succ_self _);have HQ10:=Lib.hid (show b10<wL.heap.size from HL2.out.lt);generalize w.heap.size+1=b4 at *
 clear HRF HB2;go_loopw [5,35] (fun s5 s35 wr=>∃(k e:Nat) (L:List Mt) (A:Option Addr) (n c:Nat),s35=.int .i64 (k:Int)/\s5=.int .i64 (e:Int)/\k<=nF/\Hid (Lp w wL wr b4 w.heap.size b10 i g f f e0 s A n c e k L)) (fun _ v _=>nF-(intOf v).toNat)
 case atStart=>exact⟨0,e0,[],none,0,0,by go_num,rfl,by omega,Lib.hid ⟨St_nil _ _,rfl,rfl,HV2.out,ownM_nil _ _,HH2.out,HL2.out,But2.refl _ _ _⟩⟩
 case round =>
  obtain⟨k,e,L,A,n,c,rfl,rfl,hk,HX⟩:=hrel;by_cases hkn:k<nF
  ·obtain⟨hg,hx,hdr⟩:=HX.out.next (by rw[HNF.out];exact hkn)
   obtain⟨ad,hA,-,c0,c1,c2,c3⟩:=fr_at HRL.out hx HX.out.but HS3.out HOB.out;have hgt:=GF_to hg;have hbs:(fbody s e).size<=1000000:=by unfold fbody;rw[ByteArray.size_extract];omega
   have HME:=Lib.hid (fun wx=>meta_any (by4 s.data.toList e) (fbody s e) e (fto s e) wx hbs (by omega) (by omega));have HDE:=Lib.hid (fun wx=>Decode_any (fbody s e) wx hbs);have HFR:=Lib.hid (show fr s e=(by4 s.data.toList e,fbody s e,e,fto s e) from rfl);have HNX:=Lib.hid (And.intro hg (And.intro hdr (fun m=>(good_iff f L (fr s e) m).2)));have HGN:=Lib.hid (fun m=>(good_iff f L (fr s e) m).1);rw[HFR.out] at HNX HGN;unfold fr at c0 c1 c2 c3;dsimp only at c0 c1 c2 c3;subst hA;have HAL:=Lib.hid (ext_alloc wr (.cells #[.int .i64 (by4 s.data.toList e:Int),.string (fbody s e),.int .i64 (e:Int),.int .i64 (fto s e:Int)] 92));have HW1:=Lib.hid (HX.out.ext HAL.out);have HF1:=Lib.hid (show Fb (wr.alloc (.cells #[.int .i64 (by4 s.data.toList e:Int),.string (fbody s e),.int .i64 (e:Int),.int .i64 (fto s e:Int)] 92)) wr.heap.size (by4 s.data.toList e) (fbody s e) e (fto s e) from heap_alloc_new wr _);have HOW:=Lib.hid (show ∀k,(Value.slice A n c).ownBlock=some k->wL.heap.size<=k/\k<wr.heap.size from World.ownsRow.lt HX.out.own);have HBT:=Lib.hid (show wL.heap.size<=wr.heap.size from HX.out.but.size);have HST:=Lib.hid (show(GF s e->good f L (fr s e)=none)->Sn.rn f s [] e0=(L,e) from HX.out.stop);rw[HFR.out] at HST;generalize by4 s.data.toList e=K at *
   generalize fbody s e=BD at *
   generalize hTO:fto s e=T at *
   have HTO:=Lib.hid hTO;clear hTO;clear hg hx hdr hgt hbs HX;go_upto_block 1 with (fail)
   go_cut [5] from 36 to 67 (fun s5 wx=>s5=.int .i64 (T:Int)/\ ∃(L':List Mt) (A':Option Addr) (n' c':Nat),Hid (Lp w wL wx b4 w.heap.size b10 i g f f e0 s A' n' c' T (k+1) L'))
   case rest =>
    obtain⟨rfl,L',A',n',c',HP⟩:=hcut;clear HME HDE HFR HNX HGN c0 c1 c2 c3 HAL HW1 HF1 HOW HBT HST HTO;go_wp2_with fail
    go_roundw
    case rel=>exact⟨k+1,T,L',A',n',c',by go_num,rfl,by omega,HP⟩
    case measure=>simp[intOf];omega
   go_wp2_with fail
   generalize wr.alloc (.cells #[.int .i64 (K:Int),.string BD,.int .i64 (e:Int),.int .i64 (T:Int)] 92)=wA at *
   refine(HME.out _).mono ?_;rintro e3 w3 ⟨ha,hb3⟩;have HW3:=Lib.hid (HW1.out.ext hb3);have HF3:=Lib.hid (HF1.out.below hb3 HF1.out.lt);have HZ3:=Lib.hid (show wr.heap.size<=w3.heap.size from Nat.le_trans HAL.out.size hb3.size);clear HW1 HF1 hb3 HME c0 c1 c2 c3;rcases ha with ⟨m,hm,rfl⟩|⟨hm,rfl⟩
   ·obtain⟨ma,ms,mr,mc,mf,me,ml⟩:=m
    have HAM:=Lib.hid (ext_alloc w3 (.cells #[.int .i64 (ma:Int),.int .i64 (ms:Int),.int .i64 (mr:Int),.int .i64 (mc:Int),.int .i64 (mf:Int),.int .i64 (me:Int),.int .i64 (ml:Int)] 39));have HW4:=Lib.hid (HW3.out.ext HAM.out);have HF4:=Lib.hid (HF3.out.below HAM.out HF3.out.lt);have HM4:=Lib.hid (show Mb (w3.alloc (.cells #[.int .i64 (ma:Int),.int .i64 (ms:Int),.int .i64 (mr:Int),.int .i64 (mc:Int),.int .i64 (mf:Int),.int .i64 (me:Int),.int .i64 (ml:Int)] 39)) w3.heap.size ma ms mr mc mf me ml from heap_alloc_new w3 _);have HGO:=Lib.hid (fun wx hk=>goes_any ⟨ma,ms,mr,mc,mf,me,ml⟩ b4 w.heap.size b10 i g f f A n c L wx rfl HW3.out.ok hk);have HMM:=Lib.hid hm;unfold mv magg at HGO;dsimp only at HGO;unfold mv magg;rcases hgo:goesB f L ⟨ma,ms,mr,mc,mf,me,ml⟩ with _|_
    ·rw[hgo] at HGO
     have HRN:=Lib.hid (HST.out (fun _=>by
      rcases hgd:good f L (K,BD,e,T) with _|m
      ·rfl
      ·obtain⟨h1,h2,-⟩:=HGN.out m hgd
       rw[HMM.out] at h1;obtain rfl:=Option.some.inj h1;rw[hgo] at h2;cases h2))
     have c0:=HM4.out.c0;have c1:=HM4.out.c1;have c2:=HM4.out.c2;have c3:=HM4.out.c3;have c4:=HM4.out.c4;have c5:=HM4.out.c5;have c6:=HM4.out.c6;clear HW3 HF3 hm hgo HST HGN HNX;go_wp2_with fail
     generalize w3.alloc (.cells #[.int .i64 (ma:Int),.int .i64 (ms:Int),.int .i64 (mr:Int),.int .i64 (mc:Int),.int .i64 (mf:Int),.int .i64 (me:Int),.int .i64 (ml:Int)] 39)=w4 at *
     refine(HGO.out _ HW4.out.kp.1).mono ?_;rintro e5 w5 ⟨rfl,hb5⟩;have HW:=Lib.hid (HW4.out.ext hb5);clear hb5 c0 c1 c2 c3 c4 c5 c6;have HF:=Lib.hid (HW.out.fin HRN.out HT.out HB3.out HQ.out.1 HQ.out.2 HS4.out);have hc:=HW.out.row.cell;have hf:=HW.out.row.frozen;have hc2:=(HW.out.row.set_ (.slice A n c)).cell;clear HW;go_wp2_with fail
     try rw[Exit.noGoto_ret]
     refine bodyPost_ret (v:=.tuple #[.slice A n c,.int .i64 (e:Int),.int .i64 0]) (by simp[results,go_sem,hc2]) rfl ?_;exact HF.out
    ·rw[hgo] at HGO
     have HGG:=Lib.hid hgo;clear HW3 HF3 hm hgo;go_wp2_with fail
     generalize w3.alloc (.cells #[.int .i64 (ma:Int),.int .i64 (ms:Int),.int .i64 (mr:Int),.int .i64 (mc:Int),.int .i64 (mf:Int),.int .i64 (me:Int),.int .i64 (ml:Int)] 39)=w4 at *
     refine(HGO.out _ HW4.out.kp.1).mono ?_;rintro e5 w5 ⟨rfl,hb5⟩;have HW5:=Lib.hid (HW4.out.ext hb5);have HF5:=Lib.hid (HF4.out.below hb5 HF4.out.lt);have HM5:=Lib.hid (HM4.out.below hb5 HM4.out.lt);have c1:=HF5.out.c1;clear hb5 HW4 HF4 HM4;go_wp2_with fail
     refine(HDE.out _).mono ?_;rintro e6 w6 ⟨hd,hb6⟩;have HW6:=Lib.hid (HW5.out.ext hb6);have HF6:=Lib.hid (HF5.out.below hb6 HF5.out.lt);have HM6:=Lib.hid (HM5.out.below hb6 HM5.out.lt);clear hb6 HW5 HF5 HM5 c1;rcases hd with ⟨l6,v6,hd,rfl,-⟩|⟨hd,x,rfl,hx⟩
     ·have h0:=HW6.out
      have x4:=h0.row.cell;have x4f:=h0.row.frozen;have x10:=h0.lt.cell;have x10f:=h0.lt.frozen;have c0:=HM6.out.c0;have c1:=HM6.out.c1;have c2:=HM6.out.c2;have c3:=HM6.out.c3;have c4:=HM6.out.c4;have c5:=HM6.out.c5;have c6:=HM6.out.c6;have d3:=HF6.out.c3;have HLN:=Lib.hid (show L.length<=1000000 by have:=h0.st.2.1;omega);have hgen:=Lib.hid h0.own;have HBS:=Lib.hid h0.but.size;have H7:=Lib.hid (show ∀w7,w6.grownBy w7 (Value.slice A n c).ownBlock->Var w7 b4 35 (.slice A n c)/\Var w7 b10 3 (.int .i64 (lateM L:Int))/\Fb w7 wr.heap.size K BD e T/\Mb w7 w3.heap.size ma ms mr mc mf me ml from fun w7 hg =>
       ⟨h0.row.grown hg (fun e=>by have:=HOW.out _ e;have:=HQ.out.2;omega),h0.lt.grown hg (fun e=>by have:=HOW.out _ e;have:=HQ10.out;omega),HF6.out.grown hg (fun e=>by have:=HOW.out _ e;omega),(hg.block w3.heap.size HM6.out.lt (fun e=>by have:=HOW.out _ e.symm;have:=HZ3.out;omega)).trans HM6.out⟩)
      have hn1: ¬ b4=b10:=Nat.ne_of_lt HBB.out;have hn2: ¬ b10=b4:=fun e=>hn1 e.symm
      have l4:=h0.row.lt;have l10:=h0.lt.lt;have lf:=HF6.out.lt;have lm:=HM6.out.lt;have HDD:=Lib.hid (show dec BD.data.toList=some l6 from hd);clear h0 hd;have HFIN:=Lib.hid (show ∀w7 g7 cap,w6.grownBy w7 (Value.slice A n c).ownBlock->OwnM w7 wL.heap.size (.slice (some ⟨g7,0,none⟩) (L.length+1) cap) (L++[⟨ma,ms,mr,mc,mf,me,ml⟩]) ->
       Lp w wL ((w7.setCell ⟨b4,0,none⟩ (.slice (some ⟨g7,0,none⟩) (L.length+1) cap)).setCell ⟨b10,0,none⟩ (.int .i64 (ml:Int))) b4 w.heap.size b10 i g f f e0 s (some ⟨g7,0,none⟩) (L.length+1) cap T (k+1) (L++[⟨ma,ms,mr,mc,mf,me,ml⟩]) from fun w7 g7 cap hg hown=>by
        obtain⟨f4,f10,-,-⟩:=H7.out w7 hg;have hgd:=HNX.out.2.2 ⟨ma,ms,mr,mc,mf,me,ml⟩ ⟨HMM.out,HGG.out,l6,HDD.out⟩;obtain⟨hg1,hg2,-⟩:=HNX.out;have hob:=World.ownsRow.lt hown;refine⟨?_,?_,hg2,((f4.set_ _).far hn1 _),?_,?_,?_,?_⟩
        ·have:=St_step HW6.out.st hg1 (by rw[HFR.out];exact hgd)
         rwa [HTO.out] at this
        ·rw[<-HW6.out.rr,<-HTO.out];exact(rn_step hg1 (by rw[HFR.out];exact hgd)).symm
        ·exact own_setCell_far (own_setCell_far hown (fun e=>by have:=(hob _ e).1;have:=HQ.out.2;dsimp only at *;omega) _) (fun e=>by have:=(hob _ e).1;have:=HQ10.out;dsimp only at *;omega) _
        ·have h1:=hg.block w.heap.size (Array.getElem?_eq_some_iff.1 HW6.out.hd).1 (fun e=>by have:=(HOW.out _ e.symm).1;have:=HB3.out.size;have:=HQ.out.1;have:=HQ.out.2;omega)
         exact(Below.heap_setCell _ ⟨b10,0,none⟩ _ _ (by have:=HLT.out;have:=HBB.out;dsimp only;omega)).trans ((Below.heap_setCell _ ⟨b4,0,none⟩ _ _ (by have:=HLT.out;dsimp only;omega)).trans (h1.trans HW6.out.hd))
        ·rw[lateM_snoc];exact(f10.far hn2 _).set_ _
        ·exact((HW6.out.but.grown hg (fun q e=>(HOW.out q e).1)).set4 0 _).set10 0 _)
      have hLe:n=L.length:=HW6.out.kp.2;clear HW6 HF6 HM6 HNX HGN HST HMM HGG HGO HDE hLe HT HB1 HB3 HS3 HS4 HQ HQ10 HLT HBB HRL HOB HNF hs h hse HV2 HH2 HL2 HFR HTO HOW HBT HAL HZ3 HAM HDD HSC HBG hnF;go_wp2_with fail
      go_region_law (refine step_append7 (.tmp 60) (.tmp 62) ⟨ma,ms,mr,mc,mf,me,ml⟩ rfl rfl hgen.out HLN.out HBS.out (by simp[Act.eval]) (by simp[Act.eval]) ?_;intro g7 cap w7 hown7 hg7 hat7;have h7:=H7.out w7 hg7;have y4:=h7.1.cell;have y4f:=h7.1.frozen;have y10:=h7.2.1.cell;have y10f:=h7.2.1.frozen;have z3:=h7.2.2.1.c3;have z6:=h7.2.2.2.c6)
      all_goals
       have HP:=Lib.hid (HFIN.out w7 g7 cap hg7 hown7);clear h7 y4 y4f y10 y10f z3 z6 hown7 hg7 hat7 x4 x4f x10 x10f c0 c1 c2 c3 c4 c5 c6 d3 HFIN H7;go_wp2_with fail
       go_meet
       case rel=>exact⟨rfl,_,_,_,_,HP⟩
     ·have HRN:=Lib.hid (HST.out (fun _=>by
       rcases hgd:good f L (K,BD,e,T) with _|m
       ·rfl
       ·obtain⟨-,-,r,h3⟩:=HGN.out m hgd
        have h4:dec BD.data.toList=some r:=h3;rw[hd] at h4;cases h4))
      have HW:=HW6;clear HW6 hd;have HF:=Lib.hid (HW.out.fin HRN.out HT.out HB3.out HQ.out.1 HQ.out.2 HS4.out);have hc:=HW.out.row.cell;have hf:=HW.out.row.frozen;have hc2:=(HW.out.row.set_ (.slice A n c)).cell;clear HW;go_wp2_with fail
      try rw[Exit.noGoto_ret]
      refine bodyPost_ret (v:=.tuple #[.slice A n c,.int .i64 (e:Int),.int .i64 0]) (by simp[results,go_sem,hc2]) rfl ?_;exact HF.out
   ·have HRN:=Lib.hid (HST.out (fun _=>by
     rcases hgd:good f L (K,BD,e,T) with _|m
     ·rfl
     ·have:=(HGN.out m hgd).1
      rw[hm] at this;cases this))
    have HW:=Lib.hid (HW3.out.ext (ext_alloc w3 (.cells #[.int .i64 0,.int .i64 0,.int .i64 0,.int .i64 0,.int .i64 0,.int .i64 0,.int .i64 0] 39)));clear HW3 HF3 hm HST HGN HNX;unfold magg;have HF:=Lib.hid (HW.out.fin HRN.out HT.out HB3.out HQ.out.1 HQ.out.2 HS4.out);have hc:=HW.out.row.cell;have hf:=HW.out.row.frozen;have hc2:=(HW.out.row.set_ (.slice A n c)).cell;clear HW;go_wp2_with fail
    try rw[Exit.noGoto_ret]
    refine bodyPost_ret (v:=.tuple #[.slice A n c,.int .i64 (e:Int),.int .i64 0]) (by simp[results,go_sem,hc2]) rfl ?_;exact HF.out
  ·have HRN:=Lib.hid (HX.out.done (by rw[HNF.out];exact hkn))
   have HW:=HX;clear HX;have HF:=Lib.hid (HW.out.fin HRN.out HT.out HB3.out HQ.out.1 HQ.out.2 HS4.out);have hc:=HW.out.row.cell;have hf:=HW.out.row.frozen;have hc2:=(HW.out.row.set_ (.slice A n c)).cell;clear HW;go_wp2_with fail
   try rw[Exit.noGoto_ret]
   refine bodyPost_ret (v:=.tuple #[.slice A n c,.int .i64 (e:Int),.int .i64 0]) (by simp[results,go_sem,hc2]) rfl ?_;exact HF.out
end Sn
end Go.Proofs.YtlnbjikooadmoaaGreat
namespace Go.Proofs.YtlnbjikooadmoaaGreat
namespace Sn
open Go.RowKit Hd Fm Bk Rd
end Sn
end Go.Proofs.YtlnbjikooadmoaaGreat
namespace Go.Proofs.YtlnbjikooadmoaaGreat
namespace Sn
open Go.RowKit Hd Fm Bk
theorem tail_any (s:ByteArray) (i g f:Int) (w:World) (hs:s.size<=1000000) :
  Calls Tryz.prog 40 #[.string s,.agg #[.int .i64 i,.int .i64 g,.int .i64 f]] w fun e w'=>TlAns s i g f w e w'/\Below w.heap.size w w':=by
 by_cases h:okH i g f=true/\preB s (hdrB i.toNat g.toNat f.toNat)=true
 ·obtain⟨h1,h2⟩:=h
  have hh:1<=i/\i<=999999/\1<=g/\g<=999999/\1<=f/\f<=1000000000:=by simpa[okH] using h1
  obtain⟨i',rfl⟩:∃n:Nat,i=n:=⟨i.toNat,by omega⟩
  obtain⟨g',rfl⟩:∃n:Nat,g=n:=⟨g.toNat,by omega⟩
  obtain⟨f',rfl⟩:∃n:Nat,f=n:=⟨f.toNat,by omega⟩
  exact tail_yes s i' g' f' w hs (by omega) (by simpa using h2)
 ·exact tail_no s i g f w (by unfold tl;rw[if_neg h])
end Sn
end Go.Proofs.YtlnbjikooadmoaaGreat
namespace Go.Proofs.YtlnbjikooadmoaaGreat
namespace Dk
open Go.RowKit Hd Fm Sn Bk Rd
section
variable {w w':World} {S:Nat->Prop} {bd gN gS:Nat} {v:Value} {D:DS}
set_option maxHeartbeats 1600000 in
theorem trim1_go (h:DiskAt w S bd D) {bS bE n:Nat} {i g f:Int} {s:ByteArray} (hS:Blk w bS (sgc bd i g f s) 77) (hE:Blk w bE #[.int .i64 (n:Int)] 3) {b:Nat} {p:ByteArray×ByteArray} (ho:D.off=false) (hl:lk s D.now=some b) (hp:D.fl b=some p) (h1:n<=p.2.size) :
  Calls Tryz.prog 61 #[.pointer (some ⟨bS,0,none⟩),.pointer (some ⟨bE,0,none⟩)] w fun e w'=>e=.returned (.int .i64 (opE D))/\ ∃S',DiskAt w' S' bd (opS false (setF b (p.1,p.2.extract 0 n)) D)/\Gr S w S' w':=by
 have HC:=Lib.hid (cut_go h (s:=s) ho hl hp h1);have k0:=hS.cell 0 (v:=.pointer (some ⟨bd,0,none⟩)) rfl;have k4:=hS.cell 4 (v:=.string s) rfl;have t0:=hE.cell 0 (v:=.int .i64 (n:Int)) rfl;clear h hS hE ho hl hp h1
 go_enter Tryz.func61, Tryz.ntmps61
 go_wp2_with (go_at_call 62;refine HC.out.mono ?_;rintro e5 w5 ⟨rfl,S5,hD5,hG5⟩;have HD5:=Lib.hid (And.intro hD5 hG5);clear hD5 hG5)
 go_ret
 exact⟨rfl,S5,HD5.out⟩
def trimD (b:Nat) (p:ByteArray×ByteArray) (n:Nat) (D:DS):DS:=syncD b (p.2.extract 0 n) (setF b (p.1,p.2.extract 0 n) (tick D))
set_option maxHeartbeats 1600000 in
theorem trim_all (h:DiskAt w S bd D) (hc:Calm D) {bS bE gF n:Nat} {i g f:Int} {s:ByteArray} (hS:Blk w bS (sgc bd i g f s) 77) (hE:Blk w bE #[.int .i64 (n:Int)] 3)
  (hF:Blk w gF #[.func (.func 61) #[] #[.pointer (some ⟨bS,0,none⟩),.pointer (some ⟨bE,0,none⟩)],.func (.func 53) #[.agg (sgc bd i g f s)] #[]] 57)
  (nS: ¬ S bS) (nE: ¬ S bE) (nF: ¬ S gF) {b:Nat} {p:ByteArray×ByteArray} (hl:lk s D.now=some b) (hp:D.fl b=some p) (h1:n<=p.2.size) :
  Calls Tryz.prog 47 #[.slice (some ⟨gF,0,none⟩) 2 2] w fun e w'=>e=.returned (.int .i64 0)/\ ∃S',DiskAt w' S' bd (trimD b p n D)/\Gr S w S' w':=by
 let R:Nat->DS->Prop:=fun k D'=>match k with
  |0=>D'=D
  |1=>D'=setF b (p.1,p.2.extract 0 n) (tick D)
  |_=>D'=trimD b p n D
 refine(all_any [(61,#[],#[.pointer (some ⟨bS,0,none⟩),.pointer (some ⟨bE,0,none⟩)]),(53,#[.agg (sgc bd i g f s)],#[])]
  (some ⟨gF,0,none⟩) 2 2 w (fun k wx=>∃S' D',Gr S w S' wx/\DiskAt wx S' bd D'/\R k D') (fun _ _=>False) (by omega) ?_ ⟨S,D,Gr.refl _ _,h,rfl⟩ ?_ ?_).mono ?_
 ·rintro k wx ⟨S',D',g1,-⟩
  exact rd_blk (g1.blk hF nF)
 ·intro f' hf'
  simp only[List.mem_cons,List.not_mem_nil,or_false] at hf';rcases hf' with rfl|rfl
  ·exact enters_of Tryz.func61 (by kernel_rfl) rfl
  ·exact enters_of Tryz.func53 (by kernel_rfl) rfl
 ·intro k f' hf' wx hJ
  obtain⟨S',D',g1,hD,hR⟩:=hJ;rcases k with _|_|k
  ·simp only[List.getElem?_cons_zero,Option.some.injEq] at hf'
   subst hf';obtain rfl:D'=D:=hR;refine(trim1_go hD (g1.blk hS nS) (g1.blk hE nE) hc.off hl hp h1).mono ?_;rintro e w2 ⟨rfl,S2,hD2,g2⟩;refine⟨0,by rw[hc.e],.inl ⟨rfl,S2,_,g1.trans g2,hD2,?_⟩⟩;rw[opS_calm hc];rfl
  ·simp only[List.getElem?_cons_succ,List.getElem?_cons_zero,Option.some.injEq] at hf'
   subst hf';obtain rfl:D'=setF b (p.1,p.2.extract 0 n) (tick D):=hR;have c1:Calm (setF b (p.1,p.2.extract 0 n) (tick D)):=hc.tick.setF b _;refine(ssync_go hD (b:=b) (p:=(p.1,p.2.extract 0 n)) c1.off hl (by show(if b=b then _ else _)=_;rw[if_pos rfl])).mono ?_;rintro e w2 ⟨rfl,S2,hD2,g2⟩;refine⟨0,by rw[c1.e],.inl ⟨rfl,S2,_,g1.trans g2,hD2,?_⟩⟩;rw[opS_calm c1];rfl
  ·simp at hf'
 ·rintro e w' ⟨x,rfl,⟨rfl,S',D',g1,hD,hR⟩|⟨-,hF⟩⟩
  ·obtain rfl:D'=trimD b p n D:=hR
   exact⟨rfl,S',hD,g1⟩
  ·exact hF.elim
set_option maxHeartbeats 6400000 in
set_option maxRecDepth 100000 in
theorem Trim_cut (h:DiskAt w S bd D) (hc:Calm D) {i g f:Int} {b E:Nat} {L:List Mt} {p:ByteArray×ByteArray} (hh:okH i g f=true) (hl:lk (segN i g) D.now=some b) (hp:D.fl b=some p) (ht:tl p.2 i g f=some (L,E)) (hE:E<p.2.size) :
  Calls Tryz.prog 23 #[.pointer (some ⟨bd,0,none⟩),.agg #[.int .i64 i,.int .i64 g,.int .i64 f]] w fun e w'=>∃(A':Option Addr) (n' c':Nat),e=.returned (.tuple #[.slice A' n' c',.int .i64 (E:Int),.int .i64 0])/\OwnM w' w.heap.size (.slice A' n' c') L/\ ∃S',DiskAt w' S' bd (trimD b p E D)/\Gr S w S' w'/\ ∀j,(Value.slice A' n' c').ownBlock=some j-> ¬ S' j:=by
 have mixed:Tryz.prog.follows .mixedOrders=true:=by kernel_rfl
 have hbg:=h.fit.big b p hp;have HO:=Lib.hid (fun w=>of_ok (bd:=bd) i g f w hh);have hrp:readP D (segN i g)=(p.2,0):=by
  unfold readP;rw[hc.off,hl];simp[hp]
 have HRD:=Lib.hid (fun(wx:World) (hx:Below w.heap.size w wx)=>read_any (h.ext hx) (segN i g));rw[hrp] at HRD;have HTL:=Lib.hid (fun wx=>(tail_any p.2 i g f wx hbg.2).mono (R':=fun e w'=>∃(A':Option Addr) (n' c':Nat),e=.returned (.tuple #[.slice A' n' c',.int .i64 (E:Int),.int .i64 0])/\OwnM w' wx.heap.size (.slice A' n' c') L/\Below wx.heap.size wx w') (by
  rintro e w' ⟨⟨L',E',v',hl',rfl,hown⟩|⟨hl',-⟩,hb⟩
  ·rw[ht] at hl'
   cases hl'
   obtain⟨A',c',rfl,-,-,-⟩:=hown.rd;exact⟨A',_,c',rfl,hown,hb⟩
  ·rw[ht] at hl';cases hl'))
 have HN:=Lib.hid (show ∀k,w.heap.size<=k-> ¬ S k from fun k hk=>h.gt hk);have HA:=Lib.hid (show ∀(bS bE gF:Nat) (w1 w3:World),gF=w1.heap.size->Below w.heap.size w w1->Blk w1 bS (sgc bd i g f (segN i g)) 77->w.heap.size<=bS->Blk w1 bE #[.int .i64 (E:Int)] 3->w.heap.size<=bE ->
   w3=w1.alloc (.cells #[.func (.func 61) #[] #[.pointer (some ⟨bS,0,none⟩),.pointer (some ⟨bE,0,none⟩)],.func (.func 53) #[.agg (sgc bd i g f (segN i g))] #[]] 57) ->
   Calls Tryz.prog 47 #[.slice (some ⟨gF,0,none⟩) 2 2] w3 fun e w'=>e=.returned (.int .i64 0)/\ ∃S',DiskAt w' S' bd (trimD b p E D)/\Gr S w S' w'/\(∀j,w.heap.size<=j->j<w1.heap.size->w'.heap[j]? =w1.heap[j]? /\ ¬ S' j) from by
  rintro bS bE gF w1 w3 rfl hb1 hS hbS hE' hbE rfl;have e2:=ext_alloc w1 (.cells #[.func (.func 61) #[] #[.pointer (some ⟨bS,0,none⟩),.pointer (some ⟨bE,0,none⟩)],.func (.func 53) #[.agg (sgc bd i g f (segN i g))] #[]] 57);have e3:=hb1.trans (e2.mono hb1.size);refine(trim_all (h.ext e3) hc (hS.ext e2) (hE'.ext e2) (Blk.new w1 _ _) (HN.out _ hbS) (HN.out _ hbE) (HN.out _ hb1.size) hl hp (by omega)).mono ?_;rintro e w' ⟨rfl,S',q2,q3⟩;refine⟨rfl,S',q2,(Gr.of_below e3).trans q3,fun j h1 h2=>⟨(q3.block j (Nat.lt_of_lt_of_le h2 e2.size) (HN.out _ h1)).trans (e2.block j h2),q3.out (Nat.lt_of_lt_of_le h2 e2.size) (HN.out _ h1)⟩⟩)
 clear h hc hh hl hp ht hbg hrp;unfold sgc at *
 generalize segN i g=s at *
 have B2:=ext_alloc w (.cells #[.int .i64 i,.int .i64 g,.int .i64 f] 33);have B0:=Blk.new w #[.int .i64 i,.int .i64 g,.int .i64 f] 33
 go_enter Tryz.func23, Tryz.ntmps23
 go_wp2_with (first
  |(go_at_call 30;refine(HO.out _).mono ?_;rintro e1 w1 ⟨rfl,hb1⟩;have HW1:=Lib.hid (B2.trans (hb1.mono B2.size));have HB1:=Lib.hid ((B0.ext hb1).alloc (.cells #[.pointer (some ⟨bd,0,none⟩),.int .i64 i,.int .i64 g,.int .i64 f,.string s] 77));clear hb1 B2 B0;have HW2:=Lib.hid (HW1.out.trans ((ext_alloc w1 (.cells #[.pointer (some ⟨bd,0,none⟩),.int .i64 i,.int .i64 g,.int .i64 f,.string s] 77)).mono HW1.out.size));have HS2:=Lib.hid (Blk.new w1 #[.pointer (some ⟨bd,0,none⟩),.int .i64 i,.int .i64 g,.int .i64 f,.string s] 77);have k0:=HB1.out.cell 0 (v:=.int .i64 i) rfl;have k1:=HB1.out.cell 1 (v:=.int .i64 g) rfl;have k2:=HB1.out.cell 2 (v:=.int .i64 f) rfl)
  |(go_at_call 39;refine(HRD.out _ HW2.out).mono ?_;rintro e2 w2 ⟨rfl,rfl⟩)
  |(go_at_call 40;refine(HTL.out _).mono ?_;rintro e3 w3 ⟨A',n',c',rfl,hown,hb3⟩;have HS3:=Lib.hid ((HS2.out.ext hb3).alloc (.cells #[.int .i64 (E:Int)] 3));have HE3:=Lib.hid (Blk.new w3 #[.int .i64 (E:Int)] 3);have HW3:=Lib.hid ((HW2.out.trans (hb3.mono HW2.out.size)).trans ((ext_alloc w3 (.cells #[.int .i64 (E:Int)] 3)).mono (Nat.le_trans HW2.out.size hb3.size)));have HG3:=Lib.hid (Nat.le_trans HW2.out.size hb3.size);have HO3:=Lib.hid ((hown.below (ext_alloc w3 (.cells #[.int .i64 (E:Int)] 3)) (Nat.le_refl _)).lower HW2.out.size);clear hown hb3 k0 k1 k2)
  |(refine wpList_load_row rfl 77 (.tmp 7) rfl w1.heap.size #[.pointer (some ⟨bd,0,none⟩),.int .i64 i,.int .i64 g,.int .i64 f,.string s] _ (by simp[go_sem,Act.eval]) HS3.out Tryz.underlying77 rfl sg_info ?_)
  |(go_at_call 47;refine(HA.out w1.heap.size w3.heap.size (w3.heap.size+1) (w3.alloc (.cells #[.int .i64 (E:Int)] 3)) _ (by simp) HW3.out HS3.out HW1.out.size HE3.out HG3.out rfl).mono ?_;rintro e5 w5 ⟨rfl,S5,hD5,hG5,hK5⟩;have HD5:=Lib.hid (And.intro hD5 (And.intro hG5 hK5));have z0:=(show Blk w5 w3.heap.size #[.int .i64 (E:Int)] 3 from((hK5 _ HG3.out HE3.out.lt).1).trans HE3.out).cell 0 (v:=.int .i64 (E:Int)) rfl;clear hD5 hG5 hK5))
 go_region
 all_goals
  go_wp2_with fail
  go_ret3
  refine⟨_,_,_,rfl,own_block HO3.out fun j e=>?_,S5,HD5.out.1.ext ⟨rfl,rfl,rfl,Nat.le_refl _,fun _ _=>rfl⟩,HD5.out.2.1.trans (Gr.of_below ⟨rfl,rfl,rfl,Nat.le_refl _,fun _ _=>rfl⟩),fun j e=>?_⟩
  ·have hj:=World.ownsRow.lt HO3.out j e
   exact(HD5.out.2.2 j hj.1 hj.2).1
  ·have hj:=World.ownsRow.lt HO3.out j e
   exact(HD5.out.2.2 j hj.1 hj.2).2
end
end Dk
end Go.Proofs.YtlnbjikooadmoaaGreat
namespace Go.Proofs.YtlnbjikooadmoaaGreat
namespace Dk
open Go.RowKit Hd Fm Sn Bk Rd
section
variable {w w':World} {S:Nat->Prop} {bd gN gS:Nat} {v:Value} {D:DS}
set_option maxHeartbeats 3200000 in
set_option maxRecDepth 100000 in
theorem create_exist (h:DiskAt w S bd D) {s:ByteArray} {b:Nat} (ho:D.off=false) (hs:Nm.check s.data.toList=0) (hl:lk s D.now=some b) :
  Calls Tryz.prog 63 #[.pointer (some ⟨bd,0,none⟩),.string s] w fun e w'=>e=.returned (.int .i64 202)/\Below w.heap.size w w':=by
 have HU:=Lib.hid (fun wx (h:DiskAt wx S bd D)=>up_any h);have HN:=Lib.hid (fun wx=>Nm.check_any s wx);rw[hs] at HN;have hup:upE D=0:=by unfold upE;rw[ho];rfl
 rw[hup] at HU;have HD:=Lib.hid h;obtain⟨gN,gS,v,h⟩:=h;have HM:=Lib.hid h;have HL:=Lib.hid (show find1 s (vs D.now)=some (ptr b) from by rw[vs_find,hl];rfl);clear h ho hs hl hup
 go_enter Tryz.func63, Tryz.ntmps63
 go_wp2_with (first
  |(go_at_call 50;refine(HU.out _ HD.out).mono ?_;rintro e1 w1 ⟨rfl,rfl⟩)
  |(go_at_call 105;refine(HN.out _).mono ?_;rintro e2 w2 ⟨rfl,hb2⟩;have HB2:=Lib.hid hb2;have HM2:=Lib.hid (HM.out.ext hb2);have k0:=HM2.out.c0;clear hb2)
  |(at_lookup;refine wpList_lookupS Tryz.underlying72 Tryz.underlying9 ptr_zero HM2.out.now s _ _ ?_;rw[HL.out]))
 go_ret
 exact⟨rfl,HB2.out⟩
set_option maxHeartbeats 1600000 in
theorem create1_exist (h:DiskAt w S bd D) {bS b:Nat} {i g f:Int} {s:ByteArray} (hb:Blk w bS (sgc bd i g f s) 77) (ho:D.off=false) (hs:Nm.check s.data.toList=0) (hl:lk s D.now=some b) :
  Calls Tryz.prog 79 #[.pointer (some ⟨bS,0,none⟩)] w fun e w'=>e=.returned (.int .i64 202)/\Below w.heap.size w w':=by
 have HC:=Lib.hid (create_exist h ho hs hl);have k0:=hb.cell 0 (v:=.pointer (some ⟨bd,0,none⟩)) rfl;have k4:=hb.cell 4 (v:=.string s) rfl;clear h hb ho hs hl
 go_enter Tryz.func79, Tryz.ntmps79
 go_wp2_with (go_at_call 63;refine HC.out.mono ?_;rintro e5 w5 ⟨rfl,hb5⟩)
 go_ret
 exact⟨rfl,hb5⟩
theorem create_all_exist (h:DiskAt w S bd D) {bS bB gF b:Nat} {i g f:Int} {s:ByteArray} (hS:Blk w bS (sgc bd i g f s) 77)
  (hF:Blk w gF #[.func (.func 79) #[] #[.pointer (some ⟨bS,0,none⟩)],.func (.func 80) #[] #[.pointer (some ⟨bS,0,none⟩),.pointer (some ⟨bB,0,none⟩)],.func (.func 53) #[.agg (sgc bd i g f s)] #[]] 57)
  (ho:D.off=false) (hs:Nm.check s.data.toList=0) (hl:lk s D.now=some b) :
  Calls Tryz.prog 47 #[.slice (some ⟨gF,0,none⟩) 3 3] w fun e w'=>e=.returned (.int .i64 202)/\Below w.heap.size w w':=by
 refine(all_any [(79,#[],#[.pointer (some ⟨bS,0,none⟩)]),(80,#[],#[.pointer (some ⟨bS,0,none⟩),.pointer (some ⟨bB,0,none⟩)]),(53,#[.agg (sgc bd i g f s)],#[])]
  (some ⟨gF,0,none⟩) 3 3 w (fun k wx=>k=0/\wx=w) (fun x wx=>x=202/\Below w.heap.size w wx) (by omega) ?_ ⟨rfl,rfl⟩ ?_ ?_).mono ?_
 ·rintro k wx ⟨-,rfl⟩
  exact rd_blk hF
 ·intro f' hf'
  simp only[List.mem_cons,List.not_mem_nil,or_false] at hf';rcases hf' with rfl|rfl|rfl
  ·exact enters_of Tryz.func79 (by kernel_rfl) rfl
  ·exact enters_of Tryz.func80 (by kernel_rfl) rfl
  ·exact enters_of Tryz.func53 (by kernel_rfl) rfl
 ·rintro k f' hf' wx ⟨rfl,rfl⟩
  simp only[List.getElem?_cons_zero,Option.some.injEq] at hf';subst hf';refine(create1_exist h hS ho hs hl).mono ?_;rintro e w2 ⟨rfl,hb⟩;exact⟨202,rfl,.inr ⟨by decide,rfl,hb⟩⟩
 ·rintro e w' ⟨x,rfl,⟨-,h3,-⟩|⟨-,rfl,hb⟩⟩
  ·omega
  ·exact⟨rfl,hb⟩
set_option maxHeartbeats 3200000 in
set_option maxRecDepth 100000 in
theorem screate_exist (h:DiskAt w S bd D) {i g f:Nat} {s:ByteArray} {b:Nat} (hh:1<=i/\i<=999999/\1<=g/\g<=999999/\1<=f/\f<=1000000000) (ho:D.off=false) (hs:Nm.check s.data.toList=0) (hl:lk s D.now=some b) :
  Calls Tryz.prog 31 #[.agg (sgc bd i g f s)] w fun e w'=>e=.returned (.int .i64 202)/\Below w.heap.size w w':=by
 have HP:=Lib.hid (fun w=>hput_yes i g f w hh);have HA:=Lib.hid (show ∀w1 w3,Below w.heap.size w w1->Blk w1 w.heap.size (sgc bd i g f s) 77 ->
   w3=(w1.alloc (.cells #[.string (hb i g f)] 9)).alloc (.cells #[.func (.func 79) #[] #[.pointer (some ⟨w.heap.size,0,none⟩)],.func (.func 80) #[] #[.pointer (some ⟨w.heap.size,0,none⟩),.pointer (some ⟨w1.heap.size,0,none⟩)],.func (.func 53) #[.agg (sgc bd i g f s)] #[]] 57) ->
   Calls Tryz.prog 47 #[.slice (some ⟨w1.heap.size+1,0,none⟩) 3 3] w3 fun e w'=>e=.returned (.int .i64 202)/\Below w.heap.size w w' from by
  rintro w1 w3 hb1 hS rfl;have e2:=ext_second w1 (.cells #[.string (hb i g f)] 9) (.cells #[.func (.func 79) #[] #[.pointer (some ⟨w.heap.size,0,none⟩)],.func (.func 80) #[] #[.pointer (some ⟨w.heap.size,0,none⟩),.pointer (some ⟨w1.heap.size,0,none⟩)],.func (.func 53) #[.agg (sgc bd i g f s)] #[]] 57);have e3:=hb1.trans (e2.mono hb1.size);refine(create_all_exist (h.ext e3) (hS.ext e2) (blk_second w1 _ _ _) ho hs hl).mono ?_;rintro e w' ⟨rfl,hb⟩;exact⟨rfl,e3.trans (hb.mono e3.size)⟩)
 clear h hh ho hs hl;unfold sgc at *
 have B0:=Blk.new w #[.pointer (some ⟨bd,0,none⟩),.int .i64 i,.int .i64 g,.int .i64 f,.string s] 77;have B2:=ext_alloc w (.cells #[.pointer (some ⟨bd,0,none⟩),.int .i64 i,.int .i64 g,.int .i64 f,.string s] 77);generalize hb i g f=H at *
 go_enter Tryz.func31, Tryz.ntmps31
 go_wp2_with (first
  |(go_at_call 32;refine(HP.out _).mono ?_;rintro e1 w1 ⟨rfl,hb1⟩;have HB1:=Lib.hid (B0.ext hb1);have HW1:=Lib.hid (B2.trans (hb1.mono B2.size));clear hb1 B0 B2;have k0:=HB1.out.cell 0 (v:=.pointer (some ⟨bd,0,none⟩)) rfl;have k1:=HB1.out.cell 1 (v:=.int .i64 i) rfl;have k2:=HB1.out.cell 2 (v:=.int .i64 g) rfl;have k3:=HB1.out.cell 3 (v:=.int .i64 f) rfl;have k4:=HB1.out.cell 4 (v:=.string s) rfl;have l0:=HB1.out.lt)
  |(go_at_call 47;refine(HA.out _ _ HW1.out HB1.out rfl).mono ?_;rintro e5 w5 ⟨rfl,hb5⟩))
 go_ret
 exact⟨rfl,hb5⟩
set_option maxHeartbeats 3200000 in
set_option maxRecDepth 100000 in
theorem Create_exist (h:DiskAt w S bd D) {i g f:Nat} {b:Nat} (hh:1<=i/\i<=999999/\1<=g/\g<=999999/\1<=f/\f<=1000000000) (ho:D.off=false) (hl:lk (segN i g) D.now=some b) :
  Calls Tryz.prog 8 #[.pointer (some ⟨bd,0,none⟩),.agg #[.int .i64 (i:Int),.int .i64 (g:Int),.int .i64 (f:Int)]] w fun e w'=>e=.returned (.int .i64 202)/\Below w.heap.size w w':=by
 have hs:Nm.check (segN i g).data.toList=0:=Nm.check_seg i g;have HO:=Lib.hid (fun w=>of_ok (bd:=bd) (i:Int) (g:Int) (f:Int) w (by simp only[okH,decide_eq_true_eq];omega));have HC:=Lib.hid (fun(wx:World) (hx:Below w.heap.size w wx)=>screate_exist (h.ext hx) hh ho hs hl);clear h hh ho hs hl;unfold sgc at *
 generalize segN i g=s at *
 have B2:=ext_alloc w (.cells #[.int .i64 (i:Int),.int .i64 (g:Int),.int .i64 (f:Int)] 33)
 go_enter Tryz.func8, Tryz.ntmps8
 go_wp2_with (first
  |(go_at_call 30;refine(HO.out _).mono ?_;rintro e1 w1 ⟨rfl,hb1⟩;have HW1:=Lib.hid (B2.trans (hb1.mono B2.size));clear hb1 B2;have HW2:=Lib.hid (HW1.out.trans ((ext_alloc w1 (.cells #[.pointer (some ⟨bd,0,none⟩),.int .i64 i,.int .i64 g,.int .i64 f,.string s] 77)).mono HW1.out.size)))
  |(go_at_call 31;refine(HC.out _ HW2.out).mono ?_;rintro e5 w5 ⟨rfl,hb5⟩))
 go_ret
 exact⟨rfl,HW2.out.trans (hb5.mono HW2.out.size)⟩
set_option maxHeartbeats 3200000 in
set_option maxRecDepth 100000 in
theorem Create_bad (i g f:Int) (w:World) (h:okH i g f=false) :
  Calls Tryz.prog 8 #[.pointer (some ⟨bd,0,none⟩),.agg #[.int .i64 i,.int .i64 g,.int .i64 f]] w fun e w'=>e=.returned (.int .i64 210)/\Below w.heap.size w w':=by
 have HO:=Lib.hid (fun w=>of_bad (bd:=bd) i g f w h);clear h;have B2:=ext_alloc w (.cells #[.int .i64 i,.int .i64 g,.int .i64 f] 33)
 go_enter Tryz.func8, Tryz.ntmps8
 go_wp2_with (first
  |(go_at_call 30;refine(HO.out _).mono ?_;rintro e1 w1 ⟨rfl,hb1⟩;have HW1:=Lib.hid (B2.trans (hb1.mono B2.size));clear hb1 B2))
 go_ret
 exact⟨rfl,HW1.out.trans ((ext_alloc w1 _).mono HW1.out.size)⟩
set_option maxHeartbeats 3200000 in
set_option maxRecDepth 100000 in
theorem Size_go {A:Option Addr} {n c:Nat} {l:List (Int×Int×ByteArray)} (w:World) (Z:Nat) (hrd:Rd w w.heap.size 3 A n (fl3 l)) (hn:n<=100000) (hj:jE l=0) (hne:l≠ []) (hZ:∀B,BlkOf l B->B.size+9=Z) :
  Calls Tryz.prog 29 #[.slice A n c] w fun e w'=>e=.returned (.int .i64 (Z:Int))/\Below w.heap.size w w':=by
 have HE:=Lib.hid (encode_blk A n c l w hrd hn hj hne);have HF:=Lib.hid (fun(B:ByteArray) (hB:BlkOf l B) wx=>fsize_any B wx (by have:=(hB.size hj hne).2;omega));have HZ:=Lib.hid hZ;clear hrd hn hj hne hZ
 go_enter Tryz.func29, Tryz.ntmps29
 go_wp2_with (first
  |(go_at_call 15;refine HE.out.mono ?_;rintro e1 w1 ⟨⟨B,hB,rfl⟩,hb1⟩;have HB:=Lib.hid hB;have HW:=Lib.hid hb1;clear hB hb1)
  |(go_at_call 35;refine(HF.out B HB.out _).mono ?_;rintro e2 w2 ⟨rfl,rfl⟩))
 go_ret
 refine⟨?_,HW.out⟩;rw[<-HZ.out B HB.out];rfl
end
end Dk
end Go.Proofs.YtlnbjikooadmoaaGreat
namespace Go.Proofs.YtlnbjikooadmoaaGreat
namespace Dk
open Go.RowKit Hd Fm Sn
section
variable {w w':World} {S:Nat->Prop} {bd gN gS:Nat} {v:Value} {D:DS}
set_option maxHeartbeats 3200000 in
set_option maxRecDepth 100000 in
theorem Read_go (h:DiskAt w S bd D) {i g f:Int} (hh:okH i g f=true) :
  Calls Tryz.prog 12 #[.pointer (some ⟨bd,0,none⟩),.agg #[.int .i64 i,.int .i64 g,.int .i64 f]] w fun e w'=>e=.returned (.tuple #[.string (readP D (segN i g)).1,.int .i64 (readP D (segN i g)).2])/\Below w.heap.size w w':=by
 have HO:=Lib.hid (fun w=>of_ok (bd:=bd) i g f w hh);have HC:=Lib.hid (fun(wx:World) (hx:Below w.heap.size w wx)=>read_any (h.ext hx) (segN i g));clear h hh;unfold sgc at *
 generalize segN i g=s at *
 have B2:=ext_alloc w (.cells #[.int .i64 i,.int .i64 g,.int .i64 f] 33)
 go_enter Tryz.func12, Tryz.ntmps12
 go_wp2_with (first
  |(go_at_call 30;refine(HO.out _).mono ?_;rintro e1 w1 ⟨rfl,hb1⟩;have HW1:=Lib.hid (B2.trans (hb1.mono B2.size));clear hb1 B2;have HW2:=Lib.hid (HW1.out.trans ((ext_alloc w1 (.cells #[.pointer (some ⟨bd,0,none⟩),.int .i64 i,.int .i64 g,.int .i64 f,.string s] 77)).mono HW1.out.size)))
  |(go_at_call 39;refine(HC.out _ HW2.out).mono ?_;rintro e5 w5 ⟨rfl,rfl⟩))
 go_ret2
 exact⟨rfl,HW2.out⟩
set_option maxHeartbeats 3200000 in
set_option maxRecDepth 100000 in
theorem Sync_go (h:DiskAt w S bd D) {i g f:Int} {b:Nat} {p:ByteArray×ByteArray} (hh:okH i g f=true) (ho:D.off=false) (hl:lk (segN i g) D.now=some b) (hp:D.fl b=some p) :
  Calls Tryz.prog 20 #[.pointer (some ⟨bd,0,none⟩),.agg #[.int .i64 i,.int .i64 g,.int .i64 f]] w fun e w'=>e=.returned (.int .i64 (opE D))/\ ∃S',DiskAt w' S' bd (opS true (setF b (p.2,p.2)) D)/\Gr S w S' w':=by
 have HO:=Lib.hid (fun w=>of_ok (bd:=bd) i g f w hh);have HC:=Lib.hid (fun(wx:World) (hx:Below w.heap.size w wx)=>ssync_go (h.ext hx) (i:=i) (g:=g) (f:=f) ho hl hp);clear h hh ho hl hp;unfold sgc at *
 generalize segN i g=s at *
 have B2:=ext_alloc w (.cells #[.int .i64 i,.int .i64 g,.int .i64 f] 33)
 go_enter Tryz.func20, Tryz.ntmps20
 go_wp2_with (first
  |(go_at_call 30;refine(HO.out _).mono ?_;rintro e1 w1 ⟨rfl,hb1⟩;have HW1:=Lib.hid (B2.trans (hb1.mono B2.size));clear hb1 B2;have HW2:=Lib.hid (HW1.out.trans ((ext_alloc w1 (.cells #[.pointer (some ⟨bd,0,none⟩),.int .i64 i,.int .i64 g,.int .i64 f,.string s] 77)).mono HW1.out.size)))
  |(go_at_call 53;refine(HC.out _ HW2.out).mono ?_;rintro e5 w5 ⟨rfl,S5,hD5,hG5⟩;have HD5:=Lib.hid (And.intro hD5 hG5);clear hD5 hG5))
 go_ret
 exact⟨rfl,S5,HD5.out.1,(Gr.of_below HW2.out).trans HD5.out.2⟩
end
end Dk
end Go.Proofs.YtlnbjikooadmoaaGreat
namespace Go.Proofs.YtlnbjikooadmoaaGreat
namespace Bd
open Go.RowKit
section
variable {P:Program} (w:World)
end
def Bs (w:World) (S:Nat->Prop) (b:Nat) (l:List UInt8):Prop :=
 ∃p v,(p=.pointer none∨p=.pointer (some ⟨b,0,none⟩))/\w.heap[b]? =some (.cells #[p,v] 120 (0,0))/\w.ownsRow 0 5 1 v l.length (bv l)/\v.ownBlock≠some b/\S b/\(∀g,v.ownBlock=some g->S g)/\ ∀k,S k->k<w.heap.size
theorem Bs.kept {w w':World} {S:Nat->Prop} {b:Nat} {l:List UInt8} (h:Bs w S b l) (hs:w.heap.size<=w'.heap.size) (hb:∀k,S k->w'.heap[k]? =w.heap[k]?):Bs w' S b l:=by
 obtain⟨p,v,h1,h2,h3,h4,h5,h6,h7⟩:=h;refine⟨p,v,h1,(hb b h5).trans h2,?_,h4,h5,h6,fun k hk=>Nat.lt_of_lt_of_le (h7 k hk) hs⟩;rcases h3 with ⟨q1,q2⟩
 refine⟨q1,?_⟩;rcases q2 with q2|⟨g,cap,cur,rfl,hg,hc,hr⟩
 ·exact .inl q2
 ·exact .inr ⟨g,cap,cur,rfl,hg,(hb g (h6 g rfl)).trans hc,hr⟩
theorem Bs.ext {w w':World} {S:Nat->Prop} {b:Nat} {l:List UInt8} (h:Bs w S b l) (hb:Below w.heap.size w w'):Bs w' S b l:=by
 have h7:∀k,S k->k<w.heap.size:=by
  obtain⟨p,v,h1,h2,h3,h4,h5,h6,h7⟩:=h;exact h7
 exact h.kept hb.size fun k hk=>hb.block k (h7 k hk)
theorem Bs.new (w:World):Bs (w.alloc (.cells #[.pointer none,.slice none 0 0] 120)) (fun k=>k=w.heap.size) w.heap.size [] :=
 ⟨_,_,.inl rfl,heap_alloc_new w _,World.ownsRow_nil _ _ _ _,by simp[Value.ownBlock],rfl,fun g hg=>(by cases hg),fun k hk=>(by subst hk;simp)⟩
theorem Bs.bb {w:World} {S:Nat->Prop} {b:Nat} {l:List UInt8} (h:Bs w S b l):Bb w 0 b l:=by
 obtain⟨p,v,h1,h2,h3,h4,-⟩:=h;rcases h1 with rfl|rfl
 ·exact .inl ⟨Nat.zero_le _,v,h2,by rw[bv_length];exact h3,h4⟩
 ·exact .inr ⟨Nat.zero_le _,v,h2,by rw[bv_length];exact h3,h4⟩
end Bd
end Go.Proofs.YtlnbjikooadmoaaGreat
namespace Go.Proofs.YtlnbjikooadmoaaGreat
namespace Dk
open Go.RowKit Hd Fm Sn Bk Rd Bd
abbrev Pb:=List (Int×Int×ByteArray)×ByteArray
def mt1 (T:Nat) (x:Pb):Mt:=mtOf T x.2 x.1 (at3 x.1 0).1.toNat (at3 x.1 0).2.1.toNat (at3 x.1 (x.1.length-1)).2.1.toNat
def tot:List Pb->Nat
 | []=>0
 |x::l=>(x.2.size+9)+tot l
def lay (T:Nat):List Pb->List Mt
 | []=>[]
 |x::l=>mt1 T x::lay (T+(x.2.size+9)) l
def cat:List Pb->List UInt8
 | []=>[]
 |x::l=>(frB 2 x.2).data.toList++cat l
theorem tot_snoc (x:Pb):∀l,tot (l++[x])=tot l+(x.2.size+9)
 | []=>by simp[tot]
 |y::l=>by rw[List.cons_append,tot,tot,tot_snoc x l];omega
theorem lay_snoc (x:Pb):∀(l:List Pb) (T:Nat),lay T (l++[x])=lay T l++[mt1 (T+tot l) x]
 | [],T=>by simp[lay,tot]
 |y::l,T=>by rw[List.cons_append,lay,lay,lay_snoc x l,tot,List.cons_append,Nat.add_assoc]
theorem cat_snoc (x:Pb):∀l,cat (l++[x])=cat l++(frB 2 x.2).data.toList
 | []=>by simp[cat]
 |y::l=>by rw[List.cons_append,cat,cat,cat_snoc x l,List.append_assoc]
theorem length_lay:∀(l:List Pb) (T:Nat),(lay T l).length=l.length
 | [],_=>rfl
 |x::l,T=>by rw[lay,List.length_cons,length_lay l,List.length_cons]
theorem length_cat:∀l,(cat l).length=tot l
 | []=>rfl
 |x::l=>by rw[cat,List.length_append,length_cat l,tot,show(frB 2 x.2).data.toList.length=(frB 2 x.2).size from rfl,size_frB]
theorem take_next {α:Type} {l:List α} {k:Nat} {x:α} (h:l[k]? =some x):l.take (k+1)=l.take k++[x]:=by
 rw[List.take_add_one,h];rfl
def Good (pb:List Pb):Prop:=∀x∈pb,jE x.1=0/\x.1≠ []/\BlkOf x.1 x.2
theorem appendM {ops:Array Oper} {rest:List Oper} {o:Oper} {a:Act} {Q:Exit->Act->World->Prop} {s x:Operand} {B:Nat} {v:Value} {l:List Mt} {w0:World} (m:Mt) {x0 x1 x2 x3 x4 x5 x6:Int} (e0:x0=m.a) (e1:x1=m.s) (e2:x2=m.r) (e3:x3=m.c) (e4:x4=m.f) (e5:x5=m.e) (e6:x6=m.l)
  (hown:OwnM w0 B v l) (hl:l.length<=1000000) (hB:B<=w0.heap.size)
  (h:∀g cap w',OwnM w' B (.slice (some ⟨g,0,none⟩) (l.length+1) cap) (l++[m])->w0.grownBy w' v.ownBlock->(v.ownBlock=some g∨w0.heap.size<=g)->wpList Tryz.prog ops Q rest (a.put o.dst (.slice (some ⟨g,0,none⟩) (l.length+1) cap)) w')
  (hgd:o.guard=none:=by exact rfl) (ho:o.op=.call { callee:=.builtin .append,args:=#[s,x],argTypes:=#[35,35] }:=by exact rfl)
  (hs:a.eval s=v:=by exact rfl) (hx:a.eval x=.slice (some ⟨w0.heap.size,0,none⟩) 1 1:=by exact rfl) :
  wpList Tryz.prog ops Q (o::rest) a (w0.alloc (.cells #[.int .i64 x0,.int .i64 x1,.int .i64 x2,.int .i64 x3,.int .i64 x4,.int .i64 x5,.int .i64 x6] 39)):=by
 subst e0 e1 e2 e3 e4 e5 e6;obtain⟨i0,hi,hz0,hz1,hz2⟩:=info_parts mt_info;refine wpList_append_own_at _ hgd s x 35 ho B 39 i0 (magg 0 0 0 0 0 0 0) 7 56 Tryz.underlying35 hi hz0 hz1 hz2 rfl (by omega) v l.length (fl7 l) hs (World.ownsRow.alloc hown _)
  ⟨w0.heap.size,0,none⟩ 1 1 (cl7 m) hx rfl ?_ (by intro u hu;exact fl7_one [m] u (by simpa[fl7] using hu)) (by simp only[maxLen];omega) (by omega) (Nat.le_trans hB (by simp)) ?_
 ·intro j u hu
  rw[Addr.add_lit,Nat.zero_add,World.cell?_alloc_new];simpa[cl7] using hu
 intro v' w' hown' hg _ hat;have hg0:w0.grownBy w' v.ownBlock:=(World.grownBy_alloc w0 _ v.ownBlock).trans hg;have hown2:OwnM w' B v' (l++[m]):=by unfold OwnM;rw[fl7_append,List.length_append,show fl7 [m]=cl7 m from List.append_nil _];exact hown'
 rcases hown'.2 with ⟨-,e⟩|⟨g,cap,cur,rfl,-⟩
 ·omega
 ·refine h g cap w' hown2 hg0 ?_
  rcases hat with e|e
  ·exact .inl (by rw[<-e];rfl)
  ·simp only[Value.ownBlock,Option.some.injEq] at e
   exact .inr (by rw[e];simp)
structure La (w:World) (pb:List Pb) (T0 k bB:Nat) (v:Value) (wr:World):Prop where
 bld:∃SB,Bs wr SB bB (cat (pb.take k))/\(∀g,v.ownBlock=some g-> ¬ SB g)/\ ∀j,SB j->w.heap.size<=j
 own:OwnM wr w.heap.size v (lay T0 (pb.take k))
 below:Below w.heap.size w wr
theorem La.ext {w wr wx:World} {pb:List Pb} {T0 k bB:Nat} {v:Value} (h:La w pb T0 k bB v wr) (hb:Below wr.heap.size wr wx):La w pb T0 k bB v wx:=by
 obtain⟨⟨SB,h1,h2,h3⟩,h4,h5⟩:=h;exact⟨⟨SB,h1.ext hb,h2,h3⟩,h4.below hb (Nat.le_refl _),h5.trans (hb.mono h5.size)⟩
structure Lb (w:World) (pb:List Pb) (T0 k bB:Nat) (v:Value) (wr:World):Prop where
 bld:∃SB,Bs wr SB bB (cat (pb.take k))/\(∀g,v.ownBlock=some g-> ¬ SB g)/\ ∀j,SB j->w.heap.size<=j
 own:OwnM wr w.heap.size v (lay T0 (pb.take (k+1)))
 below:Below w.heap.size w wr
theorem La.app {w wr w4:World} {pb:List Pb} {T0 k bB g cap n:Nat} {v:Value} {x:Pb} (h:La w pb T0 k bB v wr) (hx:pb[k]? =some x) (ho:OwnM w4 w.heap.size (.slice (some ⟨g,0,none⟩) n cap) (lay T0 (pb.take k)++[mt1 (T0+tot (pb.take k)) x]))
  (hg:wr.grownBy w4 v.ownBlock) (hat:v.ownBlock=some g∨wr.heap.size<=g):Lb w pb T0 k bB (.slice (some ⟨g,0,none⟩) n cap) w4:=by
 obtain⟨⟨SB,h1,h2,h3⟩,h4,h5⟩:=h;have hlt:∀j,SB j->j<wr.heap.size:=by
  obtain⟨_,_,_,_,_,_,_,_,h⟩:=h1;exact h
 refine⟨⟨SB,h1.kept hg.size fun j hj=>hg.block j (hlt j hj) fun e=>h2 j e.symm hj,fun j hj=>?_,h3⟩,?_,h5.grown hg h5.size (fun j hj=>(World.ownsRow.lt h4 j hj).1)⟩
 ·simp only[Value.ownBlock,Option.some.injEq] at hj
  subst hj;rcases hat with e|e
  ·exact h2 _ e
  ·intro hs;have:=hlt _ hs;omega
 ·rw[take_next hx,lay_snoc];exact ho
theorem Lb.write {w w4 w5:World} {pb:List Pb} {T0 k bB:Nat} {v:Value} {x:Pb} {SB S5:Nat->Prop} (ho:OwnM w4 w.heap.size v (lay T0 (pb.take (k+1)))) (hb:Below w.heap.size w w4) (hx:pb[k]? =some x) (hn:∀g,v.ownBlock=some g-> ¬ SB g) (hS:∀j,SB j->w.heap.size<=j)
  (h5:Bs w5 S5 bB (cat (pb.take k)++(frB 2 x.2).data.toList)) (hg:Gr SB w4 S5 w5):La w pb T0 (k+1) bB v w5:=by
 have hlt:∀g,v.ownBlock=some g->g<w4.heap.size:=fun g e=>(World.ownsRow.lt ho g e).2
 refine⟨⟨S5,by rw[take_next hx,cat_snoc];exact h5,fun g e=>hg.out (hlt g e) (hn g e),fun j hj=>(hg.sub j hj).elim (hS j) (fun e=>Nat.le_trans hb.size e)⟩,own_block ho fun g e=>hg.block g (hlt g e) (hn g e),hb.trans (hg.below hb.size hS)⟩
end Dk
end Go.Proofs.YtlnbjikooadmoaaGreat
namespace Go.Proofs.YtlnbjikooadmoaaGreat
namespace Dk
open Go.RowKit Hd Fm Sn Bk Rd Bd
section
variable {w w':World} {bd:Nat}
end
end Dk
end Go.Proofs.YtlnbjikooadmoaaGreat
namespace Go.Proofs.YtlnbjikooadmoaaGreat
namespace Dk
open Go.RowKit Hd Fm Sn Bk Rd Bd
section
variable {w w':World} {S:Nat->Prop} {bd:Nat} {D:DS}
end
end Dk
end Go.Proofs.YtlnbjikooadmoaaGreat
namespace Go.Proofs.YtlnbjikooadmoaaGreat
namespace Dk
open Go.RowKit Hd Fm Sn Bk Rd Bd
theorem d3_now {s hd:ByteArray} {b:Nat} {D:DS} (hl:lk s D.now=none):(d3 s hd b D).now=D.now++[(s,b)]:=d1_now hl
theorem fl_set (b:Nat) (p:ByteArray×ByteArray) (D:DS):(setF b p D).fl b=some p:=by show(if b=b then _ else _)=_;rw[if_pos rfl]
section
variable {w w':World} {S:Nat->Prop} {bd:Nat} {D:DS}
theorem calm_d3 (hc:Calm D) (s hd:ByteArray) (b:Nat):Calm (d3 s hd b D):=((((hc.setF b _).tick).chg _).tick.setF b _).tick.setF b _
end
end Dk
end Go.Proofs.YtlnbjikooadmoaaGreat
namespace Go.Proofs.YtlnbjikooadmoaaGreat
namespace Dk
open Go.RowKit Hd Fm Sn Bk Rd Bd
section
variable {w w':World} {S:Nat->Prop} {bd:Nat} {D:DS}
end
end Dk
end Go.Proofs.YtlnbjikooadmoaaGreat
namespace Go.Proofs.YtlnbjikooadmoaaGreat
namespace Dk
open Go.RowKit Hd Fm Sn Bk Rd Bd
structure One (D:DS) (b:Nat) (s:ByteArray) (p:ByteArray×ByteArray):Prop where
 calm:Calm D
 now:D.now=[(s,b)]
 fl:D.fl b=some p
 cap:D.cap=1000000
theorem One.lk {D:DS} {b:Nat} {s:ByteArray} {p:ByteArray×ByteArray} (h:One D b s p):lk s D.now=some b:=by rw[h.now,lk_cons,if_pos rfl]
theorem One.used {D:DS} {b:Nat} {s:ByteArray} {p:ByteArray×ByteArray} (h:One D b s p):usedD D=p.2.size:=by
 unfold usedD;rw[h.now,szs,szs,h.fl];rfl
theorem One.put {D:DS} {b:Nat} {s:ByteArray} {p:ByteArray×ByteArray} (h:One D b s p) (F:ByteArray):One (putD b p F D) b s (p.1,p.2++F):=⟨h.calm.tick.setF b _,h.now,fl_set b _ _,h.cap⟩
theorem One.sync {D:DS} {b:Nat} {s T:ByteArray} {p:ByteArray×ByteArray} (h:One D b s p):One (syncD b T D) b s (T,T):=⟨h.calm.tick.setF b _,h.now,fl_set b _ _,h.cap⟩
theorem One.read {D:DS} {b:Nat} {s:ByteArray} {p:ByteArray×ByteArray} (h:One D b s p):readP D s=(p.2,0):=by
 unfold readP;rw[h.calm.off,h.lk];simp[h.fl]
theorem one_new (s hd:ByteArray) (b:Nat):One (d3 s hd b (newD 1000000)) b s (⟨#[]⟩++hd,⟨#[]⟩++hd) :=
 ⟨calm_d3 ⟨rfl,rfl⟩ s hd b,d3_now (D:=newD 1000000) rfl,fl_set b _ _,rfl⟩
theorem emp_app (x:ByteArray):(⟨#[]⟩:ByteArray)++x=x:=ba_ext (by simp)
def fileB (hd:ByteArray) (pb:List Pb):ByteArray:=hd++⟨(cat pb).toArray⟩
theorem fileB_nil (hd:ByteArray):fileB hd []=hd:=ba_ext (by simp[fileB,cat])
theorem fileB_snoc (hd:ByteArray) (pb:List Pb) (x:Pb):fileB hd (pb++[x])=fileB hd pb++frB 2 x.2:=ba_ext (by simp[fileB,cat_snoc])
theorem fileB_size (hd:ByteArray) (pb:List Pb):(fileB hd pb).size=hd.size+tot pb:=by
 unfold fileB;rw[ByteArray.size_append];show _+(cat pb).toArray.size=_
 rw[List.size_toArray,length_cat]
theorem endM_lay (H:Nat):∀pb:List Pb,endM H (lay H pb)=H+tot pb:=by
 intro pb;rcases List.eq_nil_or_concat pb with rfl|⟨l,x,rfl⟩
 ·simp[lay,endM,tot]
 ·rw[List.concat_eq_append,lay_snoc,tot_snoc]
  unfold endM;rw[List.getLast?_append];simp only[List.getLast?_singleton,Option.some_or];unfold mt1 mtOf;dsimp only;omega
theorem row_pre:∀(A:List (Int×Int×ByteArray)) (p:Option (Int×Int×ByteArray)) (B:List (Int×Int×ByteArray)),rowE p (A++B)=0->rowE p A=0
 | [],_,_,_=>rfl
 |x::A,p,B,h=>by
  rw[List.cons_append,rowE] at h;rw[rowE];split at h;·simp at h
  rename_i h1
  split at h;·simp at h
  rename_i h2
  rw[if_neg h1,if_neg h2];exact row_pre A (some x) B h
def fls (pb:List Pb):List (Int×Int×ByteArray):=(pb.map (·.1)).flatten
theorem fls_snoc (pb:List Pb) (x:Pb):fls (pb++[x])=fls pb++x.1:=by unfold fls;rw[List.map_append,List.flatten_append];simp
theorem at3_app {A B:List (Int×Int×ByteArray)} (h:B≠ []):(A++B)[A.length]? =some (at3 B 0):=by
 rw[List.getElem?_append_right (Nat.le_refl _),Nat.sub_self];exact at3_get B 0 (List.length_pos_iff.2 h)
theorem at3_pre {A B:List (Int×Int×ByteArray)} (h:A≠ []):at3 (A++B) 0=at3 A 0:=by
 rcases A with _|⟨x,A⟩
 ·exact absurd rfl h
 ·rfl
theorem extract_all (s:ByteArray) (n:Nat) (h:n=s.size):s.extract 0 n=s:=by
 subst h;refine ba_ext ?_;rw[ext_list,List.drop_zero,Nat.sub_zero,<-size_list,List.take_length]
theorem run_lay (F:Nat) (hd:ByteArray):∀pb:List Pb,Good pb->rowE none (fls pb)=0->(pb≠ []->(at3 (fls pb) 0).1=(F:Int))->pb.length<=1000->hd.size+tot pb<=1000000 ->
  rn F (fileB hd pb) [] hd.size=(lay hd.size pb,hd.size+tot pb)/\(nextM F (lay hd.size pb)=F+(fls pb).length)/\ ∀r,(fls pb).getLast? =some r->r.2.1=(lateM (lay hd.size pb):Nat):=by
 intro pb
 induction hN:pb.length generalizing pb with
 |zero =>
  have:pb=[]:=List.eq_nil_of_length_eq_zero hN;subst this;intro _ _ _ _ _;refine⟨?_,rfl,fun r hr=>by cases hr⟩;rw[fileB_nil];exact rn_end F hd [] hd.size (Nat.le_refl _)
 |succ N ih =>
  rcases List.eq_nil_or_concat pb with rfl|⟨l,x,rfl⟩
  ·simp at hN
  ·intro hg hr hf hl ht
   rw[List.concat_eq_append] at *
   rw[fls_snoc] at hr hf;rw[tot_snoc] at ht;have hgl:Good l:=fun z hz=>hg z (List.mem_append_left _ hz)
   obtain⟨g1,g2,A,g3,g4⟩:=hg x (List.mem_append_right _ (List.mem_singleton_self x));have hln:l.length=N:=by simp at hN;omega
   have hfl:l≠ []->fls l≠ []:=by
    intro hl0 e;rcases l with _|⟨y,l⟩
    ·exact hl0 rfl
    ·have:=(hgl y (List.mem_cons_self ..)).2.1
     unfold fls at e;simp only[List.map_cons,List.flatten_cons,List.append_eq_nil_iff] at e;exact this e.1
   obtain⟨i1,i2,i3⟩:=ih l hln hgl (row_pre _ _ _ hr) (fun hl0=>by rw[<-at3_pre (B:=x.1) (hfl hl0)];exact hf (by simp)) (by omega) (by omega);have hF0:(at3 (fls l++x.1) 0).1=(F:Int):=hf (by simp);have e1:=row_seq0 _ hr (fls l).length _ (at3_app g2);have hrx:=row_seq0 _ (jE_row g1).1;have hx0:0<x.1.length:=List.length_pos_iff.2 g2;have hok:=(ok1_iff _).1 e1.2.2.1;have hsz:(fileB hd l).size=hd.size+tot l:=fileB_size hd l;have hn:(at3 x.1 0).1.toNat=nextM F (lay hd.size l):=by rw[i2];omega
   have htk:lateM (lay hd.size l)<=(at3 x.1 0).2.1.toNat:=by
    rcases hlast:(fls l).getLast? with _|r
    ·have e0:fls l=[]:=List.getLast?_eq_none_iff.1 hlast
     rcases l with _|⟨y,l'⟩
     ·exact Nat.zero_le _
     ·exact absurd e0 (hfl (by simp))
    ·have hi:=i3 r hlast
     have hp:0<(fls l).length:=by
      rcases hq:fls l with _|⟨z,q⟩
      ·rw[hq] at hlast;cases hlast
      ·simp
     have hr1:(fls l++x.1)[(fls l).length-1]? =some r:=by
      rw[List.getElem?_append_left (by omega),<-List.getLast?_eq_getElem?];exact hlast
     have:=(row_seq0 _ hr _ _ hr1).2.2.2 (fls l).length _ (by omega) (at3_app g2);omega
   have hend:=ends g1 g2;have hmore:=rn_more (h1:=F) (e0:=hd.size) (s:=fileB hd l) (B:=x.2) (A:=A) (R:=x.1) (F:=(at3 x.1 0).1.toNat) (E:=(at3 x.1 0).2.1.toNat) (L:=(at3 x.1 (x.1.length-1)).2.1.toNat) (by omega) (by omega) g4 g1 g2 g3 (by omega) (by omega) (by omega) (by rw[i1];dsimp only;rw[length_lay];omega) (by rw[i1];exact hn) (by rw[i1];exact htk);rw[i1] at hmore;dsimp only at hmore;rw[extract_all _ _ hsz.symm] at hmore;refine⟨?_,?_,?_⟩
   ·rw[fileB_snoc,hmore,lay_snoc,tot_snoc]
    show(lay hd.size l++[mt1 (hd.size+tot l) x],_)=_
    rw[Nat.add_assoc]
   ·rw[lay_snoc,nextM_snoc,fls_snoc,List.length_append]
    show(at3 x.1 0).1.toNat+x.1.length=_
    rw[hn,i2];omega
   ·intro r hr'
    rw[fls_snoc,List.getLast?_append,getLast_at3 g2] at hr';cases hr'
    rw[lay_snoc,lateM_snoc];show _=(((at3 x.1 (x.1.length-1)).2.1.toNat:Nat):Int)
    omega
theorem lay_ok {F:Nat} {hd:ByteArray} {pb:List Pb} (hg:Good pb) (hr:rowE none (fls pb)=0) (hf:pb≠ []->(at3 (fls pb) 0).1=(F:Int)) (hl:pb.length<=1000) (ht:hd.size+tot pb<=1000000) :
  St hd.size (fileB hd pb) (lay hd.size pb) (hd.size+tot pb)/\RowSt F (fileB hd pb) (lay hd.size pb):=by
 obtain⟨h1,-⟩:=run_lay F hd pb hg hr hf hl ht;have h2:=St_rn F hd.size (fileB hd pb) [] hd.size (St_nil _ _);have h3:=Row_rn F (fileB hd pb) [] hd.size (Row_nil _ _);rw[h1] at h2 h3;exact⟨h2,h3⟩
theorem okBl_lay {F:Nat} {hd:ByteArray} {pb:List Pb} (hg:Good pb) (hr:rowE none (fls pb)=0) (hf:pb≠ []->(at3 (fls pb) 0).1=(F:Int)) (hl:pb.length<=1000) (ht:hd.size+tot pb<=1000000):okBl (lay hd.size pb)=true:=by
 obtain⟨⟨s1,s2,-⟩,-⟩:=lay_ok hg hr hf hl ht;unfold okBl;rw[s1,Bool.and_true,decide_eq_true_eq];exact s2
end Dk
end Go.Proofs.YtlnbjikooadmoaaGreat
namespace Go.Proofs.YtlnbjikooadmoaaGreat
namespace Dk
open Go.RowKit Hd Fm Sn Bk Rd Bd Vi
theorem puts_le:∀ns:List Nat,(∀n∈ns,n<=1000000000)->(ns.flatMap putV).length<=5*ns.length
 | [],_=>by simp
 |n::ns,h=>by
  have h1:=length_putV_le n 4 (by have:=h n (List.mem_cons_self ..);omega);have h2:=puts_le ns fun m hm=>h m (List.mem_cons_of_mem _ hm)
  rw[List.flatMap_cons,List.length_append,List.length_cons];omega
theorem nums_len:∀l:List Mt,(l.flatMap nums).length=7*l.length
 | []=>rfl
 |m::l=>by rw[List.flatMap_cons,List.length_append,nums_len l,List.length_cons];simp[nums];omega
theorem ft_le {l:List Mt} (ho:okBl l=true):(ftB l).size<=5*(7*l.length+1):=by
 obtain⟨h1,h2⟩:=okBl_row ho;have:(ftB l).size=((ftN l).flatMap putV).length:=by
  unfold ftB;show(List.toArray _).size=_
  rw[List.size_toArray]
 rw[this];have h3:=puts_le (ftN l) (by
  intro n hn;unfold ftN at hn;rcases List.mem_cons.1 hn with rfl|hn
  ·omega
  ·obtain⟨m,hm,hn⟩:=List.mem_flatMap.1 hn
   have:=(okM_iff m).1 (rowM_mem l none h2 m hm);simp only[nums,List.mem_cons,List.not_mem_nil,or_false] at hn;rcases hn with rfl|rfl|rfl|rfl|rfl|rfl|rfl<;>omega)
 have h4:(ftN l).length=7*l.length+1:=by unfold ftN;rw[List.length_cons,nums_len]
 omega
theorem recB_le {r:Int×Int×ByteArray} (h:ok1 r=true):(recB r).length<=2012:=by
 have:=(ok1_iff r).1 h;have h1:=length_putV_le r.1.toNat 4 (by omega);have h2:=length_putV_le r.2.1.toNat 4 (by omega);have h3:=length_putV_le r.2.2.size 1 (by omega);unfold recB;rw[List.length_append,List.length_append,List.length_append,size_list];omega
theorem joinB_le:∀R:List (Int×Int×ByteArray),(∀r∈R,ok1 r=true)->(joinB R).length<=2012*R.length
 | [],_=>by simp[joinB]
 |r::R,h=>by
  have h1:=recB_le (h r (List.mem_cons_self ..));have h2:=joinB_le R fun x hx=>h x (List.mem_cons_of_mem _ hx)
  have e:joinB (r::R)=recB r++joinB R:=List.flatMap_cons ..;rw[e,List.length_append,List.length_cons];omega
theorem joinB_jE {R:List (Int×Int×ByteArray)} (h:jE R=0):(joinB R).length<=2012*R.length:=by
 refine joinB_le R fun r hr=>?_
 obtain⟨j,hj,e⟩:=List.getElem_of_mem hr;exact(row_seq0 R (jE_row h).1 j r (by rw[List.getElem?_eq_getElem hj,e])).2.2.1
theorem tot_le:∀pb:List Pb,Good pb->tot pb<=2012*(fls pb).length+35*pb.length/\pb.length<=(fls pb).length
 | [],_=>⟨by simp[tot],by simp⟩
 |x::l,h=>by
  obtain⟨h1,h2⟩:=tot_le l fun z hz=>h z (List.mem_cons_of_mem _ hz)
  obtain⟨g1,g2,g3⟩:=h x (List.mem_cons_self ..);have hz:=(g3.size g1 g2).1;have hj:=joinB_jE g1;have hp:0<x.1.length:=List.length_pos_iff.2 g2;have e:(fls (x::l)).length=x.1.length+(fls l).length:=by unfold fls;rw[List.map_cons,List.flatten_cons,List.length_append]
  rw[tot,e,List.length_cons];omega
end Dk
end Go.Proofs.YtlnbjikooadmoaaGreat
namespace Go.Proofs.YtlnbjikooadmoaaGreat
namespace Sn
open Go.RowKit Hd Fm Bk Vi Rd
def r0:List (Int×Int×ByteArray):=[(1,5,hi)]
def c0:ByteArray:=⟨#[0,5,1,1,5,0,1,5,2,104,105]⟩
theorem put5:putV 5=[5]:=by rw[putV_small (by omega)];rfl
theorem joinB_r0:joinB r0=[1,5,2,104,105]:=by
 show recB (1,5,hi)++[]=_
 unfold recB;show(putV 1++(putV 5++(putV 2++[104,105])))++[]=_
 rw[Bk.put1,put5,put2];rfl
theorem row_r0:rowE none r0=0:=by decide
theorem jE_r0:jE r0=0:=by
 unfold jE;rw[if_neg (by rw[row_r0];decide),if_neg (by rw[joinB_r0];decide)]
theorem blk_r0 (A:List Nat):blk r0 A=c0.data.toList:=by
 have h1:isP r0 A=false:=isP_short A (by rw[joinB_r0];decide);have h2:(joinB r0).length=5:=by rw[joinB_r0];rfl
 have h3:hd5 r0=[5,1,1,5,0]:=by unfold hd5;rw[h2];rfl
 unfold blk mode body;rw[if_neg (by rw[h1];decide),if_neg (by rw[h1];decide),h3,joinB_r0];show _::((putV 5++(putV 1++(putV 1++(putV 5++(putV 0++[])))))++_)=_
 rw[put5,Bk.put1,put0];rfl
theorem sorted_r0:Sx.Sorted (joinB r0) [5,0,2,1,3,4]:=by rw[joinB_r0];exact⟨by decide,by decide⟩
def h0B:ByteArray:=hdrB 1 1 1
theorem hb111:(hb 1 1 1).size=3:=by
 unfold hb;rw[Bk.put1];rfl
theorem h0B_size:h0B.size=12:=by unfold h0B hdrB;rw[size_frB,hb111]
def s0:ByteArray:=h0B++frB 2 c0
theorem s0_size:s0.size=32:=by
 unfold s0;rw[ByteArray.size_append,size_frB,h0B_size];rfl
def mt0:Mt:=⟨12,20,5,1,1,5,5⟩
theorem rn_s0:Sn.rn 1 s0 [] 12=([mt0],32):=by
 have hr:Sn.rn 1 h0B [] 12=([],12):=rn_end 1 h0B [] 12 (by rw[h0B_size];exact Nat.le_refl _);have h:=rn_more (h1:=1) (e0:=12) (F:=1) (E:=5) (L:=5) (s:=h0B) (B:=c0) (A:=[5,0,2,1,3,4]) (R:=r0) (by rw[h0B_size];decide) (by rw[h0B_size];exact Nat.le_refl _) (blk_r0 _).symm jE_r0 (by decide) sorted_r0 rfl rfl rfl
  (by rw[hr];decide) (by rw[hr];rfl) (by rw[hr];decide)
 rw[hr] at h;have he:h0B.extract 0 12=h0B:=ba_ext (by rw[ext_list,List.drop_zero,Nat.sub_zero,List.take_of_length_le (by rw[size_list,h0B_size];exact Nat.le_refl _)]);rw[he] at h;rw[show(frB 2 c0)=frB 2 c0 from rfl] at h;unfold s0;rw[h];unfold mtOf mt0;rw[joinB_r0];rfl
theorem rn_behind (x:ByteArray) (h:GF (s0++x) 32->good 1 [mt0] (fr (s0++x) 32)=none):Sn.rn 1 (s0++x) [] 12=([mt0],32):=by
 have he:s0.extract 0 32=s0:=ba_ext (by rw[ext_list,List.drop_zero,Nat.sub_zero,List.take_of_length_le (by rw[size_list,s0_size];exact Nat.le_refl _)]);have ha:=agree_app s0 x 32 (by rw[s0_size];exact Nat.le_refl _);rw[he] at ha;have hr:=rn_to 1 s0 (s0++x) 32 ha [] 12 (by rw[rn_s0];exact Nat.le_refl _);rw[rn_s0] at hr;rw[hr,rn_stop h]
theorem pre_s0 (x:ByteArray):preB (s0++x) (hdrB 1 1 1)=true:=by
 rw[preB_iff];refine ba_ext ?_;have h12:(hdrB 1 1 1).size=12:=h0B_size;rw[ext_list,List.drop_zero,Nat.sub_zero,h12];unfold s0;rw[ByteArray.data_append,Array.toList_append,ByteArray.data_append,Array.toList_append,List.append_assoc,List.take_append_of_le_length (by rw[size_list,h0B_size];exact Nat.le_refl _),List.take_of_length_le (by rw[size_list,h0B_size];exact Nat.le_refl _)];rfl
theorem tl_of_rn {s:ByteArray} (hp:preB s (hdrB 1 1 1)=true):tl s 1 1 1=some (Sn.rn 1 s [] 12):=by
 unfold tl;rw[if_pos ⟨by decide,hp⟩];have h12:(hdrB 1 1 1).size=12:=h0B_size;show some (Sn.rn 1 s [] (hdrB 1 1 1).size)=_
 rw[h12]
def s1:ByteArray:=s0++frB 3 (ftB [mt0])
end Sn
end Go.Proofs.YtlnbjikooadmoaaGreat
