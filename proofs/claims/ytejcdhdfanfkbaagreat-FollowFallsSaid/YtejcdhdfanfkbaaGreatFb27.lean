/- head: last, Next. head.Next, head.End, of any blocks. name.Manifest, name.Temp. seg.all: things in turn, up to the first that tells an error. disk: Read; the closures that turn a file. disk: used. -/
import Derived.Test.YtejcdhdfanfkbaaGreatFb25
import Derived.Test.YtejcdhdfanfkbaaGreatFb26
import Derived.Test.YtejcdhdfanfkbaaGreatFb23
import Derived.Test.YtejcdhdfanfkbaaGreatFb20
import Derived.Test.YtejcdhdfanfkbaaGreatFb02
import Derived.Test.YtejcdhdfanfkbaaGreatFb17
import Derived.Deep.LoopGhost
import Derived.Test.YtejcdhdfanfkbaaGreatFb09
namespace Go.Proofs.YtejcdhdfanfkbaaGreat
namespace Sn
open Go.RowKit Hd Bk
def m0:Mt:=⟨0,0,0,0,0,0,0⟩
set_option maxHeartbeats 3200000 in
set_option maxRecDepth 100000 in
theorem last_nil (A:Option Addr) (c:Nat) (w:World) :
  Calls Tryz.prog 129 #[.slice A 0 c] w fun e w'=>e=.returned (.tuple #[magg 0 0 0 0 0 0 0,.bool false])/\Below w.heap.size w w':=by
 have mixed:Tryz.prog.follows .mixedOrders=true:=by kernel_rfl
 have HB:=Lib.hid (ext_alloc w (.cells #[.int .i64 0,.int .i64 0,.int .i64 0,.int .i64 0,.int .i64 0,.int .i64 0,.int .i64 0] 154));have HI:=Lib.hid (show(Tryz.prog.info? 154).map (·.size)=some 7 by kernel_rfl);unfold magg
 go_enter Tryz.func129, Tryz.ntmps129
 go_wp2_with (first|(refine wpList_store_new w #[.int .i64 0,.int .i64 0,.int .i64 0,.int .i64 0,.int .i64 0,.int .i64 0,.int .i64 0] rfl 154 (.tmp 2) (.tmp 12) rfl #[.int .i64 0,.int .i64 0,.int .i64 0,.int .i64 0,.int .i64 0,.int .i64 0,.int .i64 0] (by simp[go_sem,Act.eval]) (by simp[go_sem,Act.eval]) HI.out rfl rfl ?_))
 refine bodyPost_ret (v:=.tuple #[.agg #[.int .i64 0,.int .i64 0,.int .i64 0,.int .i64 0,.int .i64 0,.int .i64 0,.int .i64 0],.bool false]) (by simp[results,go_sem]) rfl ?_;exact⟨rfl,HB.out⟩
set_option maxHeartbeats 3200000 in
set_option maxRecDepth 100000 in
theorem last_ok (A:Option Addr) (n c:Nat) (l:List Mt) (m:Mt) (w:World) (hrd:Rd w w.heap.size 7 A n (fl7 l)) (hn0:0<n) (hn:n<=100000) (hl:l.getLast? =some m) (ho:okBl l=true) :
  Calls Tryz.prog 129 #[.slice A n c] w fun e w'=>e=.returned (.tuple #[mv m,.bool true])/\Below w.heap.size w w':=by
 have mixed:Tryz.prog.follows .mixedOrders=true:=by kernel_rfl
 have HB:=Lib.hid (ext_alloc w (.cells #[.int .i64 0,.int .i64 0,.int .i64 0,.int .i64 0,.int .i64 0,.int .i64 0,.int .i64 0] 154));have HM:=Lib.hid (Mb.new w);have hln:=mt_len hrd;have hbl:=blocks_any A n c l (w.alloc (.cells #[.int .i64 0,.int .i64 0,.int .i64 0,.int .i64 0,.int .i64 0,.int .i64 0,.int .i64 0] 154)) (hrd.ext HB.out) (by omega);rw[blE_yes ho] at hbl;have HBL:=Lib.hid hbl;obtain⟨j,hj⟩:∃j,n=j+1:=⟨n-1,by omega⟩
 obtain⟨ad,m',hA,hbk,hx,pc0,pc1,pc2,pc3,pc4,pc5,pc6⟩:=mt_at (k:=j) hrd (by omega);rw[List.getLast?_eq_getElem?,hln,hj,Nat.add_sub_cancel,hx] at hl;obtain rfl:=Option.some.inj hl;have HC:=Lib.hid (And.intro pc0 (And.intro pc1 (And.intro pc2 (And.intro pc3 (And.intro pc4 (And.intro pc5 pc6))))));have HAB:=Lib.hid (show(ad.add (j*7)).block<w.heap.size by rw[add_block];exact hbk);have b1:((n:Int)==0)=false:=by rw[beq_eq_false_iff_ne];omega
 have b2:IntKind.i64.wrap ((n:Int)-1)=(j:Int):=by rw[IntKind.wrap_i64];omega
 have b3:(j:Int)<(n:Int):=by omega
 obtain⟨ma,ms,mr,mc,mf,me,ml⟩:=m';subst hA;clear hbl hrd hl hx hln pc0 pc1 pc2 pc3 pc4 pc5 pc6 ho hj hn0;unfold mv magg;dsimp only at *
 have b4: ¬ (j+1=0):=by omega
 go_enter Tryz.func129, Tryz.ntmps129
 go_wp2_with fail
 generalize w.alloc (.cells #[.int .i64 0,.int .i64 0,.int .i64 0,.int .i64 0,.int .i64 0,.int .i64 0,.int .i64 0] 154)=w0 at *
 refine HBL.out.mono ?_;rintro e1 w1 ⟨rfl,hb1⟩;have hb:=HB.out.trans (hb1.mono HB.out.size);have HB1:=Lib.hid hb;have hM:=HM.out.below hb1 HM.out.lt;have f0:=hM.fz;have c0:=(hb.cell HAB.out).trans HC.out.1;have c1:=(hb.cell (p:=⟨(ad.add (j*7)).block,(ad.add (j*7)).off+1,none⟩) HAB.out).trans HC.out.2.1;have c2:=(hb.cell (p:=⟨(ad.add (j*7)).block,(ad.add (j*7)).off+2,none⟩) HAB.out).trans HC.out.2.2.1;have c3:=(hb.cell (p:=⟨(ad.add (j*7)).block,(ad.add (j*7)).off+3,none⟩) HAB.out).trans HC.out.2.2.2.1;have c4:=(hb.cell (p:=⟨(ad.add (j*7)).block,(ad.add (j*7)).off+4,none⟩) HAB.out).trans HC.out.2.2.2.2.1;have c5:=(hb.cell (p:=⟨(ad.add (j*7)).block,(ad.add (j*7)).off+5,none⟩) HAB.out).trans HC.out.2.2.2.2.2.1;have c6:=(hb.cell (p:=⟨(ad.add (j*7)).block,(ad.add (j*7)).off+6,none⟩) HAB.out).trans HC.out.2.2.2.2.2.2;have q0:=hM.c0;have q1:=hM.c1;have q2:=hM.c2;have q3:=hM.c3;have q4:=hM.c4;have q5:=hM.c5;have q6:=hM.c6;clear hb hb1 hM;go_wp2_with fail
 refine bodyPost_ret (v:=.tuple #[.agg #[.int .i64 (ma:Int),.int .i64 (ms:Int),.int .i64 (mr:Int),.int .i64 (mc:Int),.int .i64 (mf:Int),.int .i64 (me:Int),.int .i64 (ml:Int)],.bool true]) (by simp[results,go_sem,q0,q1,q2,q3,q4,q5,q6]) rfl ?_;exact⟨rfl,below_fill7 HB1.out (Nat.le_refl _)⟩
def hv (i g f:Int):Value:=.agg #[.int .i64 i,.int .i64 g,.int .i64 f]
set_option maxHeartbeats 3200000 in
set_option maxRecDepth 100000 in
theorem next_any (A:Option Addr) (n c:Nat) (i g f:Int) (h1:Nat) (l:List Mt) (w:World) (hrd:Rd w w.heap.size 7 A n (fl7 l)) (hn:n<=100000) (ho:okBl l=true) (hf:f=h1) :
  Calls Tryz.prog 76 #[hv i g f,.slice A n c] w fun e w'=>e=.returned (.int .i64 (nextM h1 l:Nat))/\Below w.heap.size w w':=by
 have mixed:Tryz.prog.follows .mixedOrders=true:=by kernel_rfl
 have HB:=Lib.hid (ext_alloc w (.cells #[.int .i64 i,.int .i64 g,.int .i64 f] 148));have k2:(w.alloc (.cells #[.int .i64 i,.int .i64 g,.int .i64 f] 148)).cell? ⟨w.heap.size,2,none⟩=some (.int .i64 f):=by rw[World.cell?_alloc_new];rfl
 have hlt:w.heap.size<(w.alloc (.cells #[.int .i64 i,.int .i64 g,.int .i64 f] 148)).heap.size:=by simp
 have HK:=Lib.hid (And.intro k2 hlt);have hln:=mt_len hrd;unfold hv;rcases hl:l.getLast? with _|m
 ·have hl0:l=[]:=by simpa using hl
  have hn0:n=0:=by rw[<-hln,hl0];rfl
  have HN:=Lib.hid (show(nextM h1 l:Int)=f by unfold nextM;rw[hl];exact hf.symm);subst hn0;have HL:=Lib.hid (last_nil A c (w.alloc (.cells #[.int .i64 i,.int .i64 g,.int .i64 f] 148)));unfold magg at HL;clear hl hl0 hln hrd k2 hlt hf
  go_enter Tryz.func76, Tryz.ntmps76
  go_wp2_with fail
  generalize w.alloc (.cells #[.int .i64 i,.int .i64 g,.int .i64 f] 148)=w0 at *
  refine HL.out.mono ?_;rintro e1 w1 ⟨rfl,hb1⟩;have c2:=(hb1.cell (p:=⟨w.heap.size,2,none⟩) HK.out.2).trans HK.out.1;have HB1:=Lib.hid ((HB.out.trans (hb1.mono HB.out.size)).trans ((ext_alloc w1 (.cells #[.int .i64 0,.int .i64 0,.int .i64 0,.int .i64 0,.int .i64 0,.int .i64 0,.int .i64 0] 154)).mono (Nat.le_trans HB.out.size hb1.size)));have hlt1:w.heap.size<w1.heap.size:=Nat.lt_of_lt_of_le HK.out.2 hb1.size;clear hb1;go_wp2_with fail
  go_ret
  exact⟨by rw[HN.out];rfl,HB1.out⟩
 ·have hn0:0<n:=by
   rcases n with _|n
   ·rw[List.length_eq_zero_iff] at hln;rw[hln] at hl;cases hl
   ·omega
  have hmem:m∈l:=List.mem_of_getLast? hl;have hok:m.f+m.c<=1000000001:=by
   have:=(okM_iff m).1 (rowM_mem l none (okBl_row ho).2 m hmem);omega
  have HN:=Lib.hid (show(nextM h1 l:Int)=(m.f:Int)+(m.c:Int) by unfold nextM;rw[hl];push_cast;rfl);have HL:=Lib.hid (last_ok A n c l m (w.alloc (.cells #[.int .i64 i,.int .i64 g,.int .i64 f] 148)) (hrd.ext HB.out) hn0 (by omega) hl ho);unfold mv magg at HL;obtain⟨ma,ms,mr,mc,mf,me,ml⟩:=m;dsimp only at *
  clear hl hln hrd k2 hlt hf hmem
  go_enter Tryz.func76, Tryz.ntmps76
  go_wp2_with fail
  generalize w.alloc (.cells #[.int .i64 i,.int .i64 g,.int .i64 f] 148)=w0 at *
  refine HL.out.mono ?_;rintro e1 w1 ⟨rfl,hb1⟩;have HB1:=Lib.hid ((HB.out.trans (hb1.mono HB.out.size)).trans ((ext_alloc w1 (.cells #[.int .i64 ma,.int .i64 ms,.int .i64 mr,.int .i64 mc,.int .i64 mf,.int .i64 me,.int .i64 ml] 154)).mono (Nat.le_trans HB.out.size hb1.size)));clear hb1;go_wp2_with fail
  go_ret
  exact⟨by rw[HN.out];rfl,HB1.out⟩
end Sn
end Go.Proofs.YtejcdhdfanfkbaaGreat
namespace Go.Proofs.YtejcdhdfanfkbaaGreat
namespace Op
open Go.RowKit Hd Bk Sn Dk Fm
theorem fsize_any (s:ByteArray) (w:World) (h:s.size<=1000000):Calls Tryz.prog 187 #[.string s] w fun e w'=>e=.returned (.int .i64 ((s.size:Int)+9))/\w=w':=by
 have h1:(0:Int)<=(s.size:Int):=by omega
 have h2:(s.size:Int)<=1000000:=by omega
 clear h
 go_enter Tryz.func187, Tryz.ntmps187
 go_wp2_with fail
 go_ret
 exact⟨ret_int (by first|omega|(simp only[wrap64];omega)),rfl⟩
theorem frB_size (k:UInt8) (b:ByteArray):(frB k b).size=b.size+9:=by
 unfold frB;rw[ByteArray.size_append,size_frA];show _+(le 4 _).toArray.size=_
 rw[List.size_toArray,length_le]
theorem hsz_of {i g f:Nat} (h:1<=i/\i<=999999/\1<=g/\g<=999999/\1<=f/\f<=1000000000):hsz i g f=((hb i g f).size:Int)+9/\(hb i g f).size<=1000:=by
 have:=hb_size i g f h;have h2:(hdrB i g f).size=(hb i g f).size+9:=frB_size 1 (hb i g f);unfold hsz;simp only[Int.toNat_natCast];rw[h2];refine⟨by push_cast;rfl,by omega⟩
theorem getLast_map {α β:Type} (f:α->β) (l:List α):(l.map f).getLast? =l.getLast?.map f:=by
 rw[List.getLast?_eq_getElem?,List.getLast?_eq_getElem?,List.length_map,List.getElem?_map]
theorem nextI_any (A:Option Addr) (n c:Nat) (i g f:Int) (l:List Mi) (w:World) (hrd:Rd w w.heap.size 7 A n (flS l)) (hn:n<=100000) (ho:okBi l=true) (hf:1<=f) :
  Calls Tryz.prog 76 #[.agg #[.int .i64 i,.int .i64 g,.int .i64 f],.slice A n c] w fun e w'=>e=.returned (.int .i64 (nextI f l))/\Below w.heap.size w w':=by
 obtain⟨h1,h2⟩:=okBl_of ho;have:=next_any A n c i g f f.toNat (l.map toMt) w (by rw[h2];exact hrd) hn h1 (by omega);refine this.mono ?_;rintro e w' ⟨rfl,hb⟩;refine⟨ret_int ?_,hb⟩;unfold nextM nextI;rw[getLast_map];unfold okBi at ho;rw[Bool.and_eq_true] at ho;rcases hl:l.getLast? with _|m
 ·simp;omega
 ·have hm:=(okMi_iff m).1 (rowG_mem l none ho.2 m (List.mem_of_getLast? hl))
  simp only[Option.map_some,toMt]
  push_cast
  omega
set_option maxHeartbeats 3200000 in
set_option maxRecDepth 100000 in
theorem endI_no (A:Option Addr) (n c:Nat) (i g f:Nat) (l:List Mi) (w:World) (hh:1<=i/\i<=999999/\1<=g/\g<=999999/\1<=f/\f<=1000000000) (hrd:Rd w w.heap.size 7 A n (flS l)) (hn:n<=1000000) (ho:okBi l=false) :
  Calls Tryz.prog 179 #[.agg #[.int .i64 (i:Int),.int .i64 (g:Int),.int .i64 (f:Int)],.slice A n c] w fun e w'=>e=.returned (.tuple #[.int .i64 0,.int .i64 211])/\Below w.heap.size w w':=by
 have HP:=Lib.hid (fun w=>hput_yes i g f w hh);have HB:=Lib.hid (fun wx (hx:Below w.heap.size w wx)=>blocksI_any A n c l wx ((hrd.below hx).more hx.size) hn);rw[bE_no ho] at HB;have B2:=ext_alloc w (.cells #[.int .i64 (i:Int),.int .i64 (g:Int),.int .i64 (f:Int)] 148);generalize hb i g f=H at *
 clear hrd ho hh
 go_enter Tryz.func179, Tryz.ntmps179
 go_wp2_with (first
  |(go_at_call 221;refine(HP.out _).mono ?_;rintro e1 w1 ⟨rfl,hb1⟩;have HW1:=Lib.hid (B2.trans (hb1.mono B2.size));clear hb1 B2)
  |(go_at_call 173;refine(HB.out _ HW1.out).mono ?_;rintro e2 w2 ⟨rfl,hb2⟩;have HW2:=Lib.hid (HW1.out.trans (hb2.mono HW1.out.size));clear hb2))
 go_ret2
 exact⟨rfl,HW2.out⟩
set_option maxHeartbeats 3200000 in
set_option maxRecDepth 100000 in
theorem endI_yes (A:Option Addr) (n c:Nat) (i g f:Nat) (l:List Mi) (w:World) (hh:1<=i/\i<=999999/\1<=g/\g<=999999/\1<=f/\f<=1000000000) (hrd:Rd w w.heap.size 7 A n (flS l)) (hn:n<=100000) (ho:okBi l=true) :
  Calls Tryz.prog 179 #[.agg #[.int .i64 (i:Int),.int .i64 (g:Int),.int .i64 (f:Int)],.slice A n c] w fun e w'=>e=.returned (.tuple #[.int .i64 (endI ⟨i,g,f,false,0,0,0,0,0⟩ l),.int .i64 0])/\Below w.heap.size w w':=by
 obtain⟨h1,h2⟩:=okBl_of ho;obtain⟨hs1,hs2⟩:=hsz_of hh;have hl:=rdS_len hrd;have HP:=Lib.hid (fun w=>hput_yes i g f w hh);have HB:=Lib.hid (fun wx (hx:Below w.heap.size w wx)=>blocksI_any A n c l wx ((hrd.below hx).more hx.size) (by omega));rw[bE_yes ho] at HB;have B2:=ext_alloc w (.cells #[.int .i64 (i:Int),.int .i64 (g:Int),.int .i64 (f:Int)] 148);unfold endI;rcases hg:l.getLast? with _|m
 ·have hl0:l=[]:=List.getLast?_eq_none_iff.1 hg
  subst hl0;simp only[List.length_nil] at hl;subst hl;dsimp only;have HL:=Lib.hid (fun wx=>last_nil A c wx);unfold Bk.magg at HL;have HZ:=Lib.hid (fun wx=>fsize_any (hb i g f) wx (by omega));rw[<-hs1] at HZ;generalize hb i g f=H at *
  generalize hsz i g f=Z at *
  clear hrd ho hh hs1 hs2 hg h1 h2
  go_enter Tryz.func179, Tryz.ntmps179
  go_wp2_with (first
   |(go_at_call 221;refine(HP.out _).mono ?_;rintro e1 w1 ⟨rfl,hb1⟩;have HW1:=Lib.hid (B2.trans (hb1.mono B2.size));clear hb1 B2)
   |(go_at_call 173;refine(HB.out _ HW1.out).mono ?_;rintro e2 w2 ⟨rfl,hb2⟩;have HW2:=Lib.hid (HW1.out.trans (hb2.mono HW1.out.size));clear hb2)
   |(go_at_call 129;refine(HL.out _).mono ?_;rintro e3 w3 ⟨rfl,hb3⟩;have HW3:=Lib.hid (HW2.out.trans (hb3.mono HW2.out.size));clear hb3)
   |(go_at_call 187;refine(HZ.out _).mono ?_;rintro e4 w4 ⟨rfl,rfl⟩))
  go_ret2
  exact⟨rfl,HW3.out.trans ((ext_alloc w3 _).mono HW3.out.size)⟩
 ·dsimp only
  have hn0:0<n:=by
   rcases l with _|⟨x,l⟩
   ·cases hg
   ·simp at hl;omega
  have hmem:okMi m=true:=by
   unfold okBi at ho;rw[Bool.and_eq_true] at ho;exact rowG_mem l none ho.2 m (List.mem_of_getLast? hg)
  have hok:=(okMi_iff m).1 hmem;have HL:=Lib.hid (fun wx (hx:Below w.heap.size w wx)=>last_ok A n c (l.map toMt) (toMt m) wx (by rw[h2];exact hrd.ext hx) hn0 hn (by rw[getLast_map,hg];rfl) h1);rw[mv_of hmem] at HL;obtain⟨ma,ms,mr,mc,mf,me,ml⟩:=m;unfold mvI at HL;dsimp only at HL hok ⊢;have hw:IntKind.i64.wrap (ma+ms)=ma+ms:=by rw[IntKind.wrap_i64];omega
  generalize hb i g f=H at *
  clear hrd ho hh hs1 hs2 hg hok hl hmem h1 h2
  go_enter Tryz.func179, Tryz.ntmps179
  go_wp2_with (first
   |(go_at_call 221;refine(HP.out _).mono ?_;rintro e1 w1 ⟨rfl,hb1⟩;have HW1:=Lib.hid (B2.trans (hb1.mono B2.size));clear hb1 B2)
   |(go_at_call 173;refine(HB.out _ HW1.out).mono ?_;rintro e2 w2 ⟨rfl,hb2⟩;have HW2:=Lib.hid (HW1.out.trans (hb2.mono HW1.out.size));clear hb2)
   |(go_at_call 129;refine(HL.out _ HW2.out).mono ?_;rintro e3 w3 ⟨rfl,hb3⟩;have HW3:=Lib.hid (HW2.out.trans (hb3.mono HW2.out.size));clear hb3))
  go_ret2
  refine⟨?_,HW3.out.trans ((ext_alloc w3 _).mono HW3.out.size)⟩
  first
   |rfl
   |(rw[<-hw];rfl)
   |(show Ending.returned (.tuple #[.int .i64 (wrap64 (ma+ms)),.int .i64 0])=_;rw[show wrap64 (ma+ms)=ma+ms from by rw[<-hw,IntKind.wrap_i64];rfl])
end Op
end Go.Proofs.YtejcdhdfanfkbaaGreat
namespace Go.Proofs.YtejcdhdfanfkbaaGreat
namespace Nf
open Go.RowKit
def maniN:ByteArray:=⟨#[109,97,110,105,102,101,115,116]⟩
def tempN:ByteArray:=⟨#[109,97,110,105,102,101,115,116,46,110,101,119]⟩
theorem manifest_any (w:World):Calls Tryz.prog 163 #[] w fun e w'=>e=.returned (.string maniN)/\w=w':=by
 go_enter Tryz.func163, Tryz.ntmps163
 go_wp2_with fail
 go_ret
 exact⟨rfl,rfl⟩
theorem temp_any (w:World):Calls Tryz.prog 217 #[] w fun e w'=>e=.returned (.string tempN)/\w=w':=by
 go_enter Tryz.func217, Tryz.ntmps217
 go_wp2_with fail
 go_ret
 exact⟨rfl,rfl⟩
end Nf
end Go.Proofs.YtejcdhdfanfkbaaGreat
namespace Go.Proofs.YtejcdhdfanfkbaaGreat
namespace Dk
open Go.RowKit
def fv (f:FuncId×Array Value×Array Value):Value:=.func (.func f.1) f.2.1 f.2.2
set_option maxHeartbeats 3200000 in
set_option maxRecDepth 100000 in
theorem all_any (fs:List (FuncId×Array Value×Array Value)) (A:Option Addr) (n c:Nat) (w:World) (J:Nat->World->Prop) (F:Int->World->Prop) (hn:n<=1000)
  (hrd:∀k wx,J k wx->Rd wx wx.heap.size 1 A n (fs.map fv)) (h0:J 0 w) (hen:∀f∈fs,∀args w,(callFunc f.1 args).run Tryz.prog w=.ok (.enter f.1 args) w)
  (hstep:∀k f,fs[k]? =some f-> ∀wx,J k wx->Calls Tryz.prog f.1 (f.2.1++f.2.2) wx fun e w'=>∃x,e=.returned (.int .i64 x)/\((x=0/\J (k+1) w')∨(x≠0/\F x w'))) :
  Calls Tryz.prog 125 #[.slice A n c] w fun e w'=>∃x,e=.returned (.int .i64 x)/\((x=0/\J n w')∨(x≠0/\F x w')):=by
 have HR:=Lib.hid hrd;have HS:=Lib.hid hstep;have HE:=Lib.hid hen;have H0:=Lib.hid h0;clear hrd hstep hen h0
 go_enter Tryz.func125, Tryz.ntmps125
 go_wp2_with fail
 go_loopw [8] (fun v wr=>∃k:Nat,v=.int .i64 k/\k<=n/\Hid (J k wr)) (fun v _=>n-(intOf v).toNat)
 case atStart=>exact⟨0,by go_num,by omega,H0.out⟩
 case round =>
  obtain⟨k,rfl,hk,HX⟩:=hrel;by_cases hkn:k<n
  ·obtain⟨ad,u,hA,hbk,hx,hc⟩:=(HR.out k wr HX.out).at1 hkn
   obtain⟨f,hf,rfl⟩:∃f,fs[k]? =some f/\fv f=u:=by
    rw[List.getElem?_map] at hx;rcases hf:fs[k]? with _|f
    ·rw[hf] at hx;cases hx
    ·rw[hf] at hx
     exact⟨f,rfl,by simpa using hx⟩
   have hen2:=HE.out f (List.mem_of_getElem? hf);have HC:=Lib.hid (HS.out k f hf wr HX.out);obtain⟨fid,first,caps⟩:=f;unfold fv at hc;dsimp only at hc hen2 HC;subst hA;clear hx hf hbk;go_wp2_with (go_at_fn fid;refine HC.out.mono ?_;rintro e1 w1 ⟨x,rfl,⟨rfl,hJ⟩|⟨hx0,hJ⟩⟩<;>have HJ:=Lib.hid hJ<;>clear hJ<;>try (have hb:(x != 0)=true:=(by rw[bne_iff_ne];exact hx0)))
   ·go_roundw
    ·exact⟨k+1,by go_num,by omega,HJ.out⟩
    ·simp[intOf];omega
   ·go_ret
    exact⟨x,rfl,.inr ⟨hx0,HJ.out⟩⟩
  ·have e:k=n:=by omega
   subst e;go_wp2_with fail
   go_ret
   exact⟨0,rfl,.inl ⟨rfl,HX.out⟩⟩
end Dk
end Go.Proofs.YtejcdhdfanfkbaaGreat
namespace Go.Proofs.YtejcdhdfanfkbaaGreat
namespace Dk
open Go.RowKit
section
variable {w w':World} {S:Nat->Prop} {bd gN gS:Nat} {v:Value} {D:DS}
def readP (D:DS) (s:ByteArray):ByteArray×Int:=if D.off then(⟨#[]⟩,200) else match lk s D.now with
 |none=>(⟨#[]⟩,201)
 |some b=>(((D.fl b).map (·.2)).getD ⟨#[]⟩,0)
theorem lk_file (h:Dat w S bd gN gS v D) {s:ByteArray} {b:Nat} (hl:lk s D.now=some b):∃p,D.fl b=some p/\S b/\Blk w b #[.string p.1,.string p.2] 133:=by
 have:=h.fit.wfN _ (lk_mem hl);obtain⟨p,hp⟩:=Option.ne_none_iff_exists'.1 this;exact⟨p,hp,h.sF b p hp,h.fl b p hp⟩
set_option maxHeartbeats 1600000 in
theorem read_any (h:DiskAt w S bd D) (s:ByteArray):Calls Tryz.prog 70 #[.pointer (some ⟨bd,0,none⟩),.string s] w fun e w'=>e=.returned (.tuple #[.string (readP D s).1,.int .i64 (readP D s).2])/\w=w':=by
 have hF:=find_any h s;obtain⟨gN,gS,v,h⟩:=h;unfold findP at hF;unfold readP;rcases ho:D.off with _|_
 ·rw[ho] at hF
  simp only[Bool.false_eq_true,if_false] at hF ⊢;rcases hl:lk s D.now with _|b
  ·rw[hl] at hF
   dsimp only at hF ⊢;clear h ho hl
   go_enter Tryz.func70, Tryz.ntmps70
   go_wp2_with (go_at_call 105;refine hF.mono ?_;rintro e1 w1 ⟨rfl,rfl⟩)
   go_ret2
   exact⟨rfl,rfl⟩
  ·obtain⟨p,hp,-,hb⟩:=lk_file h hl
   rw[hl] at hF;dsimp only at hF ⊢;rw[hp];unfold ptr at hF;have c1:=hb.cell 1 (v:=.string p.2) rfl;clear h ho hl hp hb
   go_enter Tryz.func70, Tryz.ntmps70
   go_wp2_with (go_at_call 105;refine hF.mono ?_;rintro e1 w1 ⟨rfl,rfl⟩)
   go_ret2
   exact⟨rfl,rfl⟩
 ·rw[ho] at hF
  simp only[if_true] at hF ⊢;clear h ho
  go_enter Tryz.func70, Tryz.ntmps70
  go_wp2_with (go_at_call 105;refine hF.mono ?_;rintro e1 w1 ⟨rfl,rfl⟩)
  go_ret2
  exact⟨rfl,rfl⟩
set_option maxHeartbeats 1600000 in
theorem app1_any (h:DiskAt w S bd D) {b cg cf:Nat} {p:ByteArray×ByteArray} (hb:D.fl b≠none) (hg:Blk w cg #[.string p.1,.string p.2] 133) (hf:w.cell? ⟨cf,0,none⟩=some (.pointer (some ⟨b,0,none⟩)))
  (h1:p.1.size<=1000000) (h2:p.2.size<=1000000) :
  Calls Tryz.prog 110 #[.pointer (some ⟨cg,0,none⟩),.pointer (some ⟨cf,0,none⟩)] w fun e w'=>e=.returned (.tuple #[])/\ ∃S2,DiskAt w' S2 bd (setF b p D)/\Gr S w S2 w':=by
 obtain⟨gN,gS,v,h⟩:=h;obtain⟨q,hq⟩:=Option.ne_none_iff_exists'.1 hb;have hB:=h.fl b q hq;have b0:=hB.cell 0 rfl;have b1:=hB.cell 1 rfl;have x0:=hB.fz 0;have x1:=hB.fz 1;have g0:=hg.cell 0 rfl;have g1:=hg.cell 1 rfl;have sb:=h.sF b q hq;have HH:=Lib.hid (show Dat ((w.setCell ⟨b,0,none⟩ (.string p.1)).setCell ⟨b,1,none⟩ (.string p.2)) S bd gN gS v (setF b p D) from
  h.bytes (by simp) (fun k _ hk=>by rw[Below.heap_setCell _ ⟨b,1,none⟩ _ k hk,Below.heap_setCell _ ⟨b,0,none⟩ _ k hk]) hb ((hB.put 0 _).put 1 _) h1 h2)
 clear h hb hq
 go_enter Tryz.func110, Tryz.ntmps110
 go_wp2_with fail
 go_end0
 exact⟨rfl,S,⟨gN,gS,v,HH.out⟩,(Gr.setCell sb 0 _).trans (Gr.setCell sb 1 _)⟩
set_option maxHeartbeats 1600000 in
theorem cut1_any (h:DiskAt w S bd D) {b cg cf:Nat} {p:ByteArray×ByteArray} (hb:D.fl b≠none) (hg:Blk w cg #[.string p.1,.string p.2] 133) (hf:w.cell? ⟨cf,0,none⟩=some (.pointer (some ⟨b,0,none⟩)))
  (h1:p.1.size<=1000000) (h2:p.2.size<=1000000) :
  Calls Tryz.prog 177 #[.pointer (some ⟨cg,0,none⟩),.pointer (some ⟨cf,0,none⟩)] w fun e w'=>e=.returned (.tuple #[])/\ ∃S2,DiskAt w' S2 bd (setF b p D)/\Gr S w S2 w':=by
 obtain⟨gN,gS,v,h⟩:=h;obtain⟨q,hq⟩:=Option.ne_none_iff_exists'.1 hb;have hB:=h.fl b q hq;have b0:=hB.cell 0 rfl;have b1:=hB.cell 1 rfl;have x0:=hB.fz 0;have x1:=hB.fz 1;have g0:=hg.cell 0 rfl;have g1:=hg.cell 1 rfl;have sb:=h.sF b q hq;have HH:=Lib.hid (show Dat ((w.setCell ⟨b,0,none⟩ (.string p.1)).setCell ⟨b,1,none⟩ (.string p.2)) S bd gN gS v (setF b p D) from
  h.bytes (by simp) (fun k _ hk=>by rw[Below.heap_setCell _ ⟨b,1,none⟩ _ k hk,Below.heap_setCell _ ⟨b,0,none⟩ _ k hk]) hb ((hB.put 0 _).put 1 _) h1 h2)
 clear h hb hq
 go_enter Tryz.func177, Tryz.ntmps177
 go_wp2_with fail
 go_end0
 exact⟨rfl,S,⟨gN,gS,v,HH.out⟩,(Gr.setCell sb 0 _).trans (Gr.setCell sb 1 _)⟩
end
end Dk
end Go.Proofs.YtejcdhdfanfkbaaGreat
namespace Go.Proofs.YtejcdhdfanfkbaaGreat
namespace Dk
open Go.RowKit
theorem vs_split {c b:List (ByteArray×Value)} {s:ByteArray} {v:Value} {r:List (ByteArray×Nat)} (h:vs r=c++(s,v)::b):∃r1 k r2,r=r1++(s,k)::r2/\c=vs r1/\v=ptr k/\b=vs r2:=by
 unfold vs at h;obtain⟨r1,r3,e1,e2,e3⟩:=List.map_eq_append_iff.1 h;obtain⟨y,r2,e4,e5,e6⟩:=List.map_eq_cons_iff.1 e3;simp only[Prod.mk.injEq] at e5;exact⟨r1,y.2,r2,by rw[e1,e4,<-e5.1],e2.symm,e5.2.symm,e6.symm⟩
theorem vs_append (a b:List (ByteArray×Nat)):vs (a++b)=vs a++vs b:=List.map_append ..
section
variable {w w':World} {S:Nat->Prop} {bd gN gS:Nat} {v:Value} {D:DS}
structure Us (D:DS) (gN it:Nat) (w:World) (r:List (ByteArray×Nat)) (m:Nat) (wr:World):Prop where
 sum:m+szs D.fl r=usedD D
 it:Itr wr gN it (vs D.now) (vs r)
 sub:∀x∈r,D.fl x.2≠none
 below:Below w.heap.size w wr
theorem us_step {r:List (ByteArray×Nat)} {m:Nat} {wr w2:World} {c b:List (ByteArray×Value)} {s:ByteArray} {z:Value} (h:Dat w S bd gN gS v D) (hx:Us D gN w.heap.size w r m wr)
  (e:vs r=c++(s,z)::b) (hi:Itr w2 gN w.heap.size (vs D.now) (c++b)) (hg:wr.grownBy w2 (some w.heap.size)) :
  ∃(k m2:Nat) (r2:List (ByteArray×Nat)) (p:ByteArray×ByteArray),z=.pointer (some ⟨k,0,none⟩)/\w2.cell? ⟨k,1,none⟩=some (.string p.2)/\(m2=m+p.2.size/\m2<=usedD D)/\r2.length<r.length/\Aside (Us D gN w.heap.size w r2 m2 w2):=by
 obtain⟨r1,k,r2,rfl,rfl,rfl,rfl⟩:=vs_split e;obtain⟨p,hp⟩:=Option.ne_none_iff_exists'.1 (hx.sub (s,k) (by simp));have hb2:Below w.heap.size w w2:=hx.below.grown hg hx.below.size (by intro k hk;cases hk;exact Nat.le_refl _);have hs:=hx.sum;rw[szs_append,szs,hp,Option.map_some,Option.getD_some] at hs;refine⟨k,m+p.2.size,r1++r2,p,rfl,((h.ext hb2).fl k p hp).cell 1 rfl,⟨rfl,by omega⟩,by simp,⟨by rw[szs_append];omega,by rw[vs_append];exact hi,fun x hx'=>hx.sub x ?_,hb2⟩⟩;rw[List.mem_append] at hx' ⊢;exact hx'.imp_right (List.mem_cons_of_mem _)
set_option maxHeartbeats 3200000 in
set_option maxRecDepth 100000 in
theorem used_any (h:DiskAt w S bd D):Calls Tryz.prog 108 #[.pointer (some ⟨bd,0,none⟩)] w fun e w'=>e=.returned (.int .i64 (usedD D:Int))/\Below w.heap.size w w':=by
 obtain⟨gN,gS,v,h⟩:=h;have c0:=h.c0;have HM:=Lib.hid h.now;have HH:=Lib.hid h;have HT:=Lib.hid (show usedD D<=200*1000000 from Nat.le_trans (szs_le (fun b p hp=>(h.fit.big b p hp).2) D.now) (Nat.mul_le_mul_right _ h.fit.now_few));have H0:∀w1,Itr w1 gN w.heap.size (vs D.now) (vs D.now)->Below w.heap.size w w1->Aside (Us D gN w.heap.size w D.now 0 w1):=fun w1 h1 h2=>⟨by rw[Nat.zero_add];rfl,h1,h.fit.wfN,h2⟩
 have HLn:=Lib.hid (show D.now.length<=200 from h.fit.now_few);clear h
 go_enter Tryz.func108, Tryz.ntmps108
 go_wp2_with (at_range;refine wpList_rangeS Tryz.underlying117 HM.out _ ?_;intro w1 hit1 hb1 hs1)
 have H1:=H0 w1 hit1 hb1;clear hit1 hb1 hs1 H0 c0;go_frame
 go_loopg [3] 1000 (fun kx s3 wr=>∃(r:List (ByteArray×Nat)) (m:Nat),s3=.int .i64 (m:Int)/\Hid (r.length<=kx)/\Aside (Us D gN w.heap.size w r m wr))
 case atStart=>exact⟨D.now,0,rfl,by have:=HLn.out;exact Lib.hid (by omega),H1⟩
 case round =>
  clear H1;obtain⟨r,m,rfl,hk,HX⟩:=hrel;rcases r with _|⟨x0,r0⟩
  ·have hs:=HX.out.sum
   simp only[szs,Nat.add_zero] at hs;have HS:=Lib.hid hs;clear hs;go_wp2_with (at_next;refine wpList_nextS0 HX.out.it _ ?_)
   go_ret
   exact⟨by rw[HS.out];rfl,HX.out.below⟩
  ·go_wp2_with (at_next;refine wpList_nextS1 HX.out.it (by simp[vs]) _ ?_;intro c s z b w2 e2 hi2 hg2 hs2 hen;obtain⟨k,m2,r2,p,rfl,hc,hm2,hl2,H2⟩:=us_step HH.out HX.out e2 hi2 hg2;have HM2:=Lib.hid hm2;have hT2:=Nat.le_trans hm2.2 HT.out;have HL2:=Lib.hid hl2;have hw:wrap64 ((m:Int)+(p.2.size:Int))=(m:Int)+(p.2.size:Int):=(by unfold wrap64;omega);clear hm2 hT2 hl2 e2 hi2 hg2 hs2)
   go_roundg (gk-1)
   case measure=>have:=HL2.out;have:=hk.out;omega
   case rel=>exact⟨r2,m2,by rw[HM2.out.1];go_num,by have:=HL2.out;have:=hk.out;exact Lib.hid (by omega),H2⟩
end
end Dk
end Go.Proofs.YtejcdhdfanfkbaaGreat
