/- head: last, Next. head.Next, head.End, of any blocks. Names of files: what the functions of package name, and of its reference, compute: plain lists of bytes, no program. Names of files: each function of package name, and of its reference, tells what the plain functions of NamePlain tell; nothing that was there has turned. name.Manifest, name.Temp. -/
import Derived.Test.YtphfmgapiimliaaGreatSc15
import Derived.Test.YtphfmgapiimliaaGreatSc16
import Derived.Test.YtphfmgapiimliaaGreatSc14
import Derived.Test.YtphfmgapiimliaaGreatSc11
import Derived.Test.YtphfmgapiimliaaGreatSc01
import Derived.Test.YtphfmgapiimliaaGreatRows
namespace Go.Proofs.YtphfmgapiimliaaGreat
namespace Sn
open Go.RowKit Hd Bk
def m0:Mt:=⟨0,0,0,0,0,0,0⟩
set_option maxHeartbeats 3200000 in
set_option maxRecDepth 100000 in
theorem last_nil (A:Option Addr) (c:Nat) (w:World) :
  Calls Tryz.prog 93 #[.slice A 0 c] w fun e w'=>e=.returned (.tuple #[magg 0 0 0 0 0 0 0,.bool false])/\Below w.heap.size w w':=by
 have mixed:Tryz.prog.follows .mixedOrders=true:=by kernel_rfl
 have HB:=Lib.hid (ext_alloc w (.cells #[.int .i64 0,.int .i64 0,.int .i64 0,.int .i64 0,.int .i64 0,.int .i64 0,.int .i64 0] 66));have HI:=Lib.hid (show(Tryz.prog.info? 66).map (·.size)=some 7 by kernel_rfl);unfold magg
 go_enter Tryz.func93, Tryz.ntmps93
 go_wp2_with (first|(refine wpList_store_new w #[.int .i64 0,.int .i64 0,.int .i64 0,.int .i64 0,.int .i64 0,.int .i64 0,.int .i64 0] rfl 66 (.tmp 2) (.tmp 12) rfl #[.int .i64 0,.int .i64 0,.int .i64 0,.int .i64 0,.int .i64 0,.int .i64 0,.int .i64 0] (by simp[go_sem,Act.eval]) (by simp[go_sem,Act.eval]) HI.out rfl rfl ?_))
 refine bodyPost_ret (v:=.tuple #[.agg #[.int .i64 0,.int .i64 0,.int .i64 0,.int .i64 0,.int .i64 0,.int .i64 0,.int .i64 0],.bool false]) (by simp[results,go_sem]) rfl ?_;exact⟨rfl,HB.out⟩
set_option maxHeartbeats 3200000 in
set_option maxRecDepth 100000 in
theorem last_ok (A:Option Addr) (n c:Nat) (l:List Mt) (m:Mt) (w:World) (hrd:Rd w w.heap.size 7 A n (fl7 l)) (hn0:0<n) (hn:n<=100000) (hl:l.getLast? =some m) (ho:okBl l=true) :
  Calls Tryz.prog 93 #[.slice A n c] w fun e w'=>e=.returned (.tuple #[mv m,.bool true])/\Below w.heap.size w w':=by
 have mixed:Tryz.prog.follows .mixedOrders=true:=by kernel_rfl
 have HB:=Lib.hid (ext_alloc w (.cells #[.int .i64 0,.int .i64 0,.int .i64 0,.int .i64 0,.int .i64 0,.int .i64 0,.int .i64 0] 66));have HM:=Lib.hid (Mb.new w);have hln:=mt_len hrd;have hbl:=blocks_any A n c l (w.alloc (.cells #[.int .i64 0,.int .i64 0,.int .i64 0,.int .i64 0,.int .i64 0,.int .i64 0,.int .i64 0] 66)) (hrd.ext HB.out) (by omega);rw[blE_yes ho] at hbl;have HBL:=Lib.hid hbl;obtain⟨j,hj⟩:∃j,n=j+1:=⟨n-1,by omega⟩
 obtain⟨ad,m',hA,hbk,hx,pc0,pc1,pc2,pc3,pc4,pc5,pc6⟩:=mt_at (k:=j) hrd (by omega);rw[List.getLast?_eq_getElem?,hln,hj,Nat.add_sub_cancel,hx] at hl;obtain rfl:=Option.some.inj hl;have HC:=Lib.hid (And.intro pc0 (And.intro pc1 (And.intro pc2 (And.intro pc3 (And.intro pc4 (And.intro pc5 pc6))))));have HAB:=Lib.hid (show(ad.add (j*7)).block<w.heap.size by rw[add_block];exact hbk);have b1:((n:Int)==0)=false:=by rw[beq_eq_false_iff_ne];omega
 have b2:IntKind.i64.wrap ((n:Int)-1)=(j:Int):=by rw[IntKind.wrap_i64];omega
 have b3:(j:Int)<(n:Int):=by omega
 obtain⟨ma,ms,mr,mc,mf,me,ml⟩:=m';subst hA;clear hbl hrd hl hx hln pc0 pc1 pc2 pc3 pc4 pc5 pc6 ho hj hn0;unfold mv magg;dsimp only at *
 have b4: ¬ (j+1=0):=by omega
 go_enter Tryz.func93, Tryz.ntmps93
 go_wp2_with fail
 generalize w.alloc (.cells #[.int .i64 0,.int .i64 0,.int .i64 0,.int .i64 0,.int .i64 0,.int .i64 0,.int .i64 0] 66)=w0 at *
 refine HBL.out.mono ?_;rintro e1 w1 ⟨rfl,hb1⟩;have hb:=HB.out.trans (hb1.mono HB.out.size);have HB1:=Lib.hid hb;have hM:=HM.out.below hb1 HM.out.lt;have f0:=hM.fz;have c0:=(hb.cell HAB.out).trans HC.out.1;have c1:=(hb.cell (p:=⟨(ad.add (j*7)).block,(ad.add (j*7)).off+1,none⟩) HAB.out).trans HC.out.2.1;have c2:=(hb.cell (p:=⟨(ad.add (j*7)).block,(ad.add (j*7)).off+2,none⟩) HAB.out).trans HC.out.2.2.1;have c3:=(hb.cell (p:=⟨(ad.add (j*7)).block,(ad.add (j*7)).off+3,none⟩) HAB.out).trans HC.out.2.2.2.1;have c4:=(hb.cell (p:=⟨(ad.add (j*7)).block,(ad.add (j*7)).off+4,none⟩) HAB.out).trans HC.out.2.2.2.2.1;have c5:=(hb.cell (p:=⟨(ad.add (j*7)).block,(ad.add (j*7)).off+5,none⟩) HAB.out).trans HC.out.2.2.2.2.2.1;have c6:=(hb.cell (p:=⟨(ad.add (j*7)).block,(ad.add (j*7)).off+6,none⟩) HAB.out).trans HC.out.2.2.2.2.2.2;have q0:=hM.c0;have q1:=hM.c1;have q2:=hM.c2;have q3:=hM.c3;have q4:=hM.c4;have q5:=hM.c5;have q6:=hM.c6;clear hb hb1 hM;go_wp2_with fail
 refine bodyPost_ret (v:=.tuple #[.agg #[.int .i64 (ma:Int),.int .i64 (ms:Int),.int .i64 (mr:Int),.int .i64 (mc:Int),.int .i64 (mf:Int),.int .i64 (me:Int),.int .i64 (ml:Int)],.bool true]) (by simp[results,go_sem,q0,q1,q2,q3,q4,q5,q6]) rfl ?_;exact⟨rfl,below_fill7 HB1.out (Nat.le_refl _)⟩
def hv (i g f:Int):Value:=.agg #[.int .i64 i,.int .i64 g,.int .i64 f]
set_option maxHeartbeats 3200000 in
set_option maxRecDepth 100000 in
theorem next_any (A:Option Addr) (n c:Nat) (i g f:Int) (h1:Nat) (l:List Mt) (w:World) (hrd:Rd w w.heap.size 7 A n (fl7 l)) (hn:n<=100000) (ho:okBl l=true) (hf:f=h1) :
  Calls Tryz.prog 53 #[hv i g f,.slice A n c] w fun e w'=>e=.returned (.int .i64 (nextM h1 l:Nat))/\Below w.heap.size w w':=by
 have mixed:Tryz.prog.follows .mixedOrders=true:=by kernel_rfl
 have HB:=Lib.hid (ext_alloc w (.cells #[.int .i64 i,.int .i64 g,.int .i64 f] 35));have k2:(w.alloc (.cells #[.int .i64 i,.int .i64 g,.int .i64 f] 35)).cell? ⟨w.heap.size,2,none⟩=some (.int .i64 f):=by rw[World.cell?_alloc_new];rfl
 have hlt:w.heap.size<(w.alloc (.cells #[.int .i64 i,.int .i64 g,.int .i64 f] 35)).heap.size:=by simp
 have HK:=Lib.hid (And.intro k2 hlt);have hln:=mt_len hrd;unfold hv;rcases hl:l.getLast? with _|m
 ·have hl0:l=[]:=by simpa using hl
  have hn0:n=0:=by rw[<-hln,hl0];rfl
  have HN:=Lib.hid (show(nextM h1 l:Int)=f by unfold nextM;rw[hl];exact hf.symm);subst hn0;have HL:=Lib.hid (last_nil A c (w.alloc (.cells #[.int .i64 i,.int .i64 g,.int .i64 f] 35)));unfold magg at HL;clear hl hl0 hln hrd k2 hlt hf
  go_enter Tryz.func53, Tryz.ntmps53
  go_wp2_with fail
  generalize w.alloc (.cells #[.int .i64 i,.int .i64 g,.int .i64 f] 35)=w0 at *
  refine HL.out.mono ?_;rintro e1 w1 ⟨rfl,hb1⟩;have c2:=(hb1.cell (p:=⟨w.heap.size,2,none⟩) HK.out.2).trans HK.out.1;have HB1:=Lib.hid ((HB.out.trans (hb1.mono HB.out.size)).trans ((ext_alloc w1 (.cells #[.int .i64 0,.int .i64 0,.int .i64 0,.int .i64 0,.int .i64 0,.int .i64 0,.int .i64 0] 66)).mono (Nat.le_trans HB.out.size hb1.size)));have hlt1:w.heap.size<w1.heap.size:=Nat.lt_of_lt_of_le HK.out.2 hb1.size;clear hb1;go_wp2_with fail
  go_ret
  exact⟨by rw[HN.out];rfl,HB1.out⟩
 ·have hn0:0<n:=by
   rcases n with _|n
   ·rw[List.length_eq_zero_iff] at hln;rw[hln] at hl;cases hl
   ·omega
  have hmem:m∈l:=List.mem_of_getLast? hl;have hok:m.f+m.c<=1000000001:=by
   have:=(okM_iff m).1 (rowM_mem l none (okBl_row ho).2 m hmem);omega
  have HN:=Lib.hid (show(nextM h1 l:Int)=(m.f:Int)+(m.c:Int) by unfold nextM;rw[hl];push_cast;rfl);have HL:=Lib.hid (last_ok A n c l m (w.alloc (.cells #[.int .i64 i,.int .i64 g,.int .i64 f] 35)) (hrd.ext HB.out) hn0 (by omega) hl ho);unfold mv magg at HL;obtain⟨ma,ms,mr,mc,mf,me,ml⟩:=m;dsimp only at *
  clear hl hln hrd k2 hlt hf hmem
  go_enter Tryz.func53, Tryz.ntmps53
  go_wp2_with fail
  generalize w.alloc (.cells #[.int .i64 i,.int .i64 g,.int .i64 f] 35)=w0 at *
  refine HL.out.mono ?_;rintro e1 w1 ⟨rfl,hb1⟩;have HB1:=Lib.hid ((HB.out.trans (hb1.mono HB.out.size)).trans ((ext_alloc w1 (.cells #[.int .i64 ma,.int .i64 ms,.int .i64 mr,.int .i64 mc,.int .i64 mf,.int .i64 me,.int .i64 ml] 66)).mono (Nat.le_trans HB.out.size hb1.size)));clear hb1;go_wp2_with fail
  go_ret
  exact⟨by rw[HN.out];rfl,HB1.out⟩
end Sn
end Go.Proofs.YtphfmgapiimliaaGreat
namespace Go.Proofs.YtphfmgapiimliaaGreat
namespace Op
open Go.RowKit Hd Bk Sn Dk Fm
theorem fsize_any (s:ByteArray) (w:World) (h:s.size<=1000000):Calls Tryz.prog 104 #[.string s] w fun e w'=>e=.returned (.int .i64 ((s.size:Int)+9))/\w=w':=by
 have h1:(0:Int)<=(s.size:Int):=by omega
 have h2:(s.size:Int)<=1000000:=by omega
 clear h
 go_enter Tryz.func104, Tryz.ntmps104
 go_wp2_with fail
 go_ret
 exact⟨ret_int (by first|omega|(simp only[wrap64];omega)),rfl⟩
theorem frB_size (k:UInt8) (b:ByteArray):(frB k b).size=b.size+9:=by
 unfold frB;rw[ByteArray.size_append,size_frA];show _+(le 4 _).toArray.size=_
 rw[List.size_toArray,length_le]
theorem hsz_of {i g f:Nat} (h:1<=i/\i<=999999/\1<=g/\g<=999999/\1<=f/\f<=1000000000):hsz i g f=((hb i g f).size:Int)+9/\(hb i g f).size<=1000:=by
 have:=hb_size i g f h;have h2:(hdrB i g f).size=(hb i g f).size+9:=frB_size 1 (hb i g f);unfold hsz;simp only[Int.toNat_natCast];rw[h2];refine⟨by push_cast;rfl,by omega⟩
theorem getLast_map {α β:Type} (f:α->β) (l:List α):(l.map f).getLast? =l.getLast?.map f:=by
 rw[List.getLast?_eq_getElem?,List.getLast?_eq_getElem?,List.length_map,List.getElem?_map]
theorem nextI_any (A:Option Addr) (n c:Nat) (i g f:Int) (l:List Mi) (w:World) (hrd:Rd w w.heap.size 7 A n (flS l)) (hn:n<=100000) (ho:okBi l=true) (hf:1<=f) :
  Calls Tryz.prog 53 #[.agg #[.int .i64 i,.int .i64 g,.int .i64 f],.slice A n c] w fun e w'=>e=.returned (.int .i64 (nextI f l))/\Below w.heap.size w w':=by
 obtain⟨h1,h2⟩:=okBl_of ho;have:=next_any A n c i g f f.toNat (l.map toMt) w (by rw[h2];exact hrd) hn h1 (by omega);refine this.mono ?_;rintro e w' ⟨rfl,hb⟩;refine⟨ret_int ?_,hb⟩;unfold nextM nextI;rw[getLast_map];unfold okBi at ho;rw[Bool.and_eq_true] at ho;rcases hl:l.getLast? with _|m
 ·simp;omega
 ·have hm:=(okMi_iff m).1 (rowG_mem l none ho.2 m (List.mem_of_getLast? hl))
  simp only[Option.map_some,toMt]
  push_cast
  omega
set_option maxHeartbeats 3200000 in
set_option maxRecDepth 100000 in
theorem endI_no (A:Option Addr) (n c:Nat) (i g f:Nat) (l:List Mi) (w:World) (hh:1<=i/\i<=999999/\1<=g/\g<=999999/\1<=f/\f<=1000000000) (hrd:Rd w w.heap.size 7 A n (flS l)) (hn:n<=1000000) (ho:okBi l=false) :
  Calls Tryz.prog 62 #[.agg #[.int .i64 (i:Int),.int .i64 (g:Int),.int .i64 (f:Int)],.slice A n c] w fun e w'=>e=.returned (.tuple #[.int .i64 0,.int .i64 211])/\Below w.heap.size w w':=by
 have HP:=Lib.hid (fun w=>hput_yes i g f w hh);have HB:=Lib.hid (fun wx (hx:Below w.heap.size w wx)=>blocksI_any A n c l wx ((hrd.below hx).more hx.size) hn);rw[bE_no ho] at HB;have B2:=ext_alloc w (.cells #[.int .i64 (i:Int),.int .i64 (g:Int),.int .i64 (f:Int)] 35);generalize hb i g f=H at *
 clear hrd ho hh
 go_enter Tryz.func62, Tryz.ntmps62
 go_wp2_with (first
  |(go_at_call 102;refine(HP.out _).mono ?_;rintro e1 w1 ⟨rfl,hb1⟩;have HW1:=Lib.hid (B2.trans (hb1.mono B2.size));clear hb1 B2)
  |(go_at_call 103;refine(HB.out _ HW1.out).mono ?_;rintro e2 w2 ⟨rfl,hb2⟩;have HW2:=Lib.hid (HW1.out.trans (hb2.mono HW1.out.size));clear hb2))
 go_ret2
 exact⟨rfl,HW2.out⟩
set_option maxHeartbeats 3200000 in
set_option maxRecDepth 100000 in
theorem endI_yes (A:Option Addr) (n c:Nat) (i g f:Nat) (l:List Mi) (w:World) (hh:1<=i/\i<=999999/\1<=g/\g<=999999/\1<=f/\f<=1000000000) (hrd:Rd w w.heap.size 7 A n (flS l)) (hn:n<=100000) (ho:okBi l=true) :
  Calls Tryz.prog 62 #[.agg #[.int .i64 (i:Int),.int .i64 (g:Int),.int .i64 (f:Int)],.slice A n c] w fun e w'=>e=.returned (.tuple #[.int .i64 (endI ⟨i,g,f,false,0,0,0,0,0⟩ l),.int .i64 0])/\Below w.heap.size w w':=by
 obtain⟨h1,h2⟩:=okBl_of ho;obtain⟨hs1,hs2⟩:=hsz_of hh;have hl:=rdS_len hrd;have HP:=Lib.hid (fun w=>hput_yes i g f w hh);have HB:=Lib.hid (fun wx (hx:Below w.heap.size w wx)=>blocksI_any A n c l wx ((hrd.below hx).more hx.size) (by omega));rw[bE_yes ho] at HB;have B2:=ext_alloc w (.cells #[.int .i64 (i:Int),.int .i64 (g:Int),.int .i64 (f:Int)] 35);unfold endI;rcases hg:l.getLast? with _|m
 ·have hl0:l=[]:=List.getLast?_eq_none_iff.1 hg
  subst hl0;simp only[List.length_nil] at hl;subst hl;dsimp only;have HL:=Lib.hid (fun wx=>last_nil A c wx);unfold Bk.magg at HL;have HZ:=Lib.hid (fun wx=>fsize_any (hb i g f) wx (by omega));rw[<-hs1] at HZ;generalize hb i g f=H at *
  generalize hsz i g f=Z at *
  clear hrd ho hh hs1 hs2 hg h1 h2
  go_enter Tryz.func62, Tryz.ntmps62
  go_wp2_with (first
   |(go_at_call 102;refine(HP.out _).mono ?_;rintro e1 w1 ⟨rfl,hb1⟩;have HW1:=Lib.hid (B2.trans (hb1.mono B2.size));clear hb1 B2)
   |(go_at_call 103;refine(HB.out _ HW1.out).mono ?_;rintro e2 w2 ⟨rfl,hb2⟩;have HW2:=Lib.hid (HW1.out.trans (hb2.mono HW1.out.size));clear hb2)
   |(go_at_call 93;refine(HL.out _).mono ?_;rintro e3 w3 ⟨rfl,hb3⟩;have HW3:=Lib.hid (HW2.out.trans (hb3.mono HW2.out.size));clear hb3)
   |(go_at_call 104;refine(HZ.out _).mono ?_;rintro e4 w4 ⟨rfl,rfl⟩))
  go_ret2
  exact⟨rfl,HW3.out.trans ((ext_alloc w3 _).mono HW3.out.size)⟩
 ·dsimp only
  have hn0:0<n:=by
   rcases l with _|⟨x,l⟩
   ·cases hg
   ·simp at hl;omega
  have hmem:okMi m=true:=by
   unfold okBi at ho;rw[Bool.and_eq_true] at ho;exact rowG_mem l none ho.2 m (List.mem_of_getLast? hg)
  have hok:=(okMi_iff m).1 hmem;have HL:=Lib.hid (fun wx (hx:Below w.heap.size w wx)=>last_ok A n c (l.map toMt) (toMt m) wx (by rw[h2];exact hrd.ext hx) hn0 hn (by rw[getLast_map,hg];rfl) h1);rw[mv_of hmem] at HL;obtain⟨ma,ms,mr,mc,mf,me,ml⟩:=m;unfold mvI at HL;dsimp only at HL hok ⊢;have hw:IntKind.i64.wrap (ma+ms)=ma+ms:=by rw[IntKind.wrap_i64];omega
  generalize hb i g f=H at *
  clear hrd ho hh hs1 hs2 hg hok hl hmem h1 h2
  go_enter Tryz.func62, Tryz.ntmps62
  go_wp2_with (first
   |(go_at_call 102;refine(HP.out _).mono ?_;rintro e1 w1 ⟨rfl,hb1⟩;have HW1:=Lib.hid (B2.trans (hb1.mono B2.size));clear hb1 B2)
   |(go_at_call 103;refine(HB.out _ HW1.out).mono ?_;rintro e2 w2 ⟨rfl,hb2⟩;have HW2:=Lib.hid (HW1.out.trans (hb2.mono HW1.out.size));clear hb2)
   |(go_at_call 93;refine(HL.out _ HW2.out).mono ?_;rintro e3 w3 ⟨rfl,hb3⟩;have HW3:=Lib.hid (HW2.out.trans (hb3.mono HW2.out.size));clear hb3))
  go_ret2
  refine⟨?_,HW3.out.trans ((ext_alloc w3 _).mono HW3.out.size)⟩
  first
   |rfl
   |(rw[<-hw];rfl)
   |(show Ending.returned (.tuple #[.int .i64 (wrap64 (ma+ms)),.int .i64 0])=_;rw[show wrap64 (ma+ms)=ma+ms from by rw[<-hw,IntKind.wrap_i64];rfl])
end Op
end Go.Proofs.YtphfmgapiimliaaGreat
namespace Go.Proofs.YtphfmgapiimliaaGreat
namespace Nm
def okRune (r:Int):Bool:=(decide (97<=r)&&decide (r<=122))||(decide (48<=r)&&decide (r<=57))||(r==46)||(r==45)
def okB (c:UInt8):Bool:=okRune c.toNat
def check (l:List UInt8):Int:=if 1<=l.length/\l.length<=64/\l.all okB=true then 0 else 180
def num6 (n:Int):List UInt8:=toU8 [48+n/10/10/10/10/10%10,48+n/10/10/10/10%10,48+n/10/10/10%10,48+n/10/10%10,48+n/10%10,48+n%10]
def may (n:Int):Bool:=decide (1<=n)&&decide (n<=999999)
def seg (i g:Int):List UInt8:=[115,101,103,45]++num6 i++[45]++num6 g++[46,108,111,103]
def isD (c:UInt8):Bool:=decide (48<=c.toNat)&&decide (c.toNat<=57)
def valTo (n:Int):List UInt8->Int
 | []=>n
 |c::l=>valTo (10*n+((c.toNat:Int)-48)) l
def value (l:List UInt8):Int:=if l.all isD=true then valTo 0 l else 0
def unsix (l:List UInt8):Int:=if l.all isD=true then valTo 0 l else -1
def parse (l:List UInt8):Option (Int×Int) :=
 if l.length=21 then
  let i:=value ((l.drop 4).take 6)
  let g:=value ((l.drop 11).take 6)
  if may i=true/\may g=true/\seg i g=l then some (i,g) else none
 else none
def parseR (l:List UInt8):Option (Int×Int) :=
 if l.length=21/\l.take 4=[115,101,103,45]/\l[10]? =some 45/\l.drop 17=[46,108,111,103] then
  let i:=unsix ((l.drop 4).take 6)
  let g:=unsix ((l.drop 11).take 6)
  if i<1∨g<1 then none else some (i,g)
 else none
theorem length_num6 (n:Int):(num6 n).length=6:=rfl
theorem length_seg (i g:Int):(seg i g).length=21:=rfl
theorem ofNat_toNat (c:UInt8) (z:Int) (h:z=c.toNat):UInt8.ofNat z.toNat=c:=by
 subst h;simp
theorem list6 {α:Type} (l:List α) (h:l.length=6):∃a b c d e f,l=[a,b,c,d,e,f]:=by
 match l,h with
 | [a,b,c,d,e,f],_=>exact⟨a,b,c,d,e,f,rfl⟩
theorem toNat_u8 (z:Int) (h0:0<=z) (h1:z<256):((UInt8.ofNat z.toNat).toNat:Int)=z:=by
 simp only[UInt8.toNat_ofNat'];omega
theorem num6_val (l:List UInt8) (h:l.length=6) (hd:l.all isD=true):num6 (valTo 0 l)=l/\0<=valTo 0 l/\valTo 0 l<=999999:=by
 obtain⟨a,b,c,d,e,f,rfl⟩:=list6 l h;simp only[List.all_cons,List.all_nil,isD,Bool.and_eq_true,decide_eq_true_eq,Bool.and_true] at hd;simp only[valTo];refine⟨?_,by omega,by omega⟩;simp only[num6,toU8,List.map_cons,List.map_nil];congr 1
 ·exact ofNat_toNat _ _ (by omega)
 congr 1
 ·exact ofNat_toNat _ _ (by omega)
 congr 1
 ·exact ofNat_toNat _ _ (by omega)
 congr 1
 ·exact ofNat_toNat _ _ (by omega)
 congr 1
 ·exact ofNat_toNat _ _ (by omega)
 congr 1
 ·exact ofNat_toNat _ _ (by omega)
theorem dig_toNat (z:Int):((UInt8.ofNat (48+z%10).toNat).toNat:Int)=48+z%10:=toNat_u8 _ (by omega) (by omega)
theorem num6_digits (n:Int):(num6 n).all isD=true:=by
 simp only[num6,toU8,List.map_cons,List.map_nil,List.all_cons,List.all_nil,isD,Bool.and_eq_true,decide_eq_true_eq,Bool.and_true];have h0:=dig_toNat n;have h1:=dig_toNat (n/10);have h2:=dig_toNat (n/10/10);have h3:=dig_toNat (n/10/10/10);have h4:=dig_toNat (n/10/10/10/10);have h5:=dig_toNat (n/10/10/10/10/10);omega
theorem val_num6 (n:Int) (h0:0<=n) (h1:n<=999999):valTo 0 (num6 n)=n:=by
 simp only[num6,toU8,List.map_cons,List.map_nil,valTo,dig_toNat];omega
theorem num6_inj {m n:Int} (h0:0<=m) (h1:m<=999999) (k0:0<=n) (k1:n<=999999) (h:num6 m=num6 n):m=n:=by
 rw[<-val_num6 m h0 h1,<-val_num6 n k0 k1,h]
theorem may_iff (n:Int):may n=true↔1<=n/\n<=999999:=by simp[may]
theorem drop4_seg (i g:Int):((seg i g).drop 4).take 6=num6 i:=rfl
theorem drop11_seg (i g:Int):((seg i g).drop 11).take 6=num6 g:=rfl
theorem join21 (l:List UInt8) (h:l.length=21) (h4:l.take 4=[115,101,103,45]) (h10:l[10]? =some 45) (h17:l.drop 17=[46,108,111,103]) :
  l=[115,101,103,45]++(l.drop 4).take 6++[45]++(l.drop 11).take 6++[46,108,111,103]:=by
 match l,h with
 | [a0,a1,a2,a3,a4,a5,a6,a7,a8,a9,a10,a11,a12,a13,a14,a15,a16,a17,a18,a19,a20],_ =>
   simp at h4 h10 h17
   obtain⟨rfl,rfl,rfl,rfl⟩:=h4;obtain⟨rfl,rfl,rfl,rfl⟩:=h17;subst h10;rfl
theorem parse_seg (i g:Int) (hi:may i=true) (hg:may g=true):parse (seg i g)=some (i,g):=by
 have hi':=(may_iff i).1 hi;have hg':=(may_iff g).1 hg;unfold parse;rw[if_pos (length_seg i g)];simp only[drop4_seg,drop11_seg,value,num6_digits,if_true];rw[val_num6 i (by omega) (by omega),val_num6 g (by omega) (by omega)];rw[if_pos ⟨hi,hg,rfl⟩]
theorem parse_some {l:List UInt8} {i g:Int} (h:parse l=some (i,g)):may i=true/\may g=true/\seg i g=l:=by
 unfold parse at h;split at h
 ·simp only at h
  split at h
  ·rename_i hh
   simp only[Option.some.injEq,Prod.mk.injEq] at h;obtain⟨rfl,rfl⟩:=h;exact hh
  ·cases h
 ·cases h
theorem parseR_seg (i g:Int) (hi:may i=true) (hg:may g=true):parseR (seg i g)=some (i,g):=by
 have hi':=(may_iff i).1 hi;have hg':=(may_iff g).1 hg;unfold parseR;rw[if_pos ⟨length_seg i g,rfl,rfl,rfl⟩];simp only[drop4_seg,drop11_seg,unsix,num6_digits,if_true];rw[val_num6 i (by omega) (by omega),val_num6 g (by omega) (by omega)];rw[if_neg (by omega)]
theorem parseR_some {l:List UInt8} {i g:Int} (h:parseR l=some (i,g)):may i=true/\may g=true/\seg i g=l:=by
 unfold parseR at h;split at h
 ·rename_i hl
  obtain⟨hl,h4,h10,h17⟩:=hl;simp only at h;split at h
  ·cases h
  ·rename_i hn
   simp only[Option.some.injEq,Prod.mk.injEq] at h;obtain⟨rfl,rfl⟩:=h;have e6:((l.drop 4).take 6).length=6:=by simp;omega
   have g6:((l.drop 11).take 6).length=6:=by simp;omega
   by_cases d1:((l.drop 4).take 6).all isD=true
   ·by_cases d2:((l.drop 11).take 6).all isD=true
    ·have a1:=num6_val _ e6 d1
     have a2:=num6_val _ g6 d2;simp only[unsix,d1,d2,if_true] at hn ⊢;refine⟨(may_iff _).2 (by omega),(may_iff _).2 (by omega),?_⟩;unfold seg;rw[a1.1,a2.1];exact(join21 l hl h4 h10 h17).symm
    ·exfalso
     apply hn
     right
     unfold unsix;rw[if_neg d2]
     decide
   ·exfalso
    apply hn
    left
    unfold unsix;rw[if_neg d1]
    decide
 ·cases h
theorem parse_eq (l:List UInt8):parse l=parseR l:=by
 rcases h:parse l with _|⟨i,g⟩
 ·rcases h':parseR l with _|⟨i,g⟩
  ·rfl
  ·obtain⟨a,b,rfl⟩:=parseR_some h'
   rw[parse_seg i g a b] at h;cases h
 ·obtain⟨a,b,rfl⟩:=parse_some h
  exact(parseR_seg i g a b).symm
def kind (l:List UInt8):Int :=
 if(parse l).isSome=true then 1 else if l=[109,97,110,105,102,101,115,116] then 2 else if l=[109,97,110,105,102,101,115,116,46,110,101,119] then 3 else 0
theorem okB_of_isD (c:UInt8) (h:isD c=true):okB c=true:=by
 simp[isD] at h
 simp[okB,okRune]
 omega
theorem check_seg (i g:Int):check (seg i g)=0:=by
 unfold check;rw[if_pos];refine⟨by rw[length_seg];decide,by rw[length_seg];decide,?_⟩;have h:∀n,(num6 n).all okB=true:=fun n=>List.all_eq_true.2 fun c hc=>okB_of_isD c (List.all_eq_true.1 (num6_digits n) c hc)
 unfold seg;simp only[List.all_append,h,Bool.and_eq_true]
 decide
end Nm
end Go.Proofs.YtphfmgapiimliaaGreat
namespace Go.Proofs.YtphfmgapiimliaaGreat
namespace Nm
open Go.RowKit
set_option maxHeartbeats 400000 in
theorem letter_any (r:Int) (w:World):Calls Tryz.prog 202 #[.int .i32 r] w fun e w'=>e=.returned (.bool (okRune r))/\w=w':=by
 go_enter Tryz.func202, Tryz.ntmps202
 go_wp2
 all_goals
  go_ret
  refine⟨ret_bool ?_,rfl⟩;unfold okRune;rw[Bool.eq_iff_iff];simp
  try omega
theorem all_take_succ (s:ByteArray) (p:UInt8->Bool) (k:Nat) (hk:k<s.size):(s.data.toList.take (k+1)).all p=((s.data.toList.take k).all p&&p s[k]):=by
 rw[List.take_succ_eq_append_getElem (by simpa using hk),List.all_append];simp
 rfl
theorem all_of_not (s:ByteArray) (p:UInt8->Bool) (k:Nat) (hk:k<s.size) (h:p s[k]=false):s.data.toList.all p=false:=by
 rw[List.all_eq_false];exact⟨s[k],List.getElem_mem (by simpa using hk),by simp[h]⟩
theorem okB_high (c:UInt8) (h:128<=c.toNat):okB c=false:=by
 simp[okB,okRune];omega
set_option maxHeartbeats 400000 in
theorem check_any (s:ByteArray) (w:World) :
  Calls Tryz.prog 163 #[.string s] w fun e w'=>e=.returned (.int .i64 (check s.data.toList))/\Below w.heap.size w w':=by
 by_cases h1:s.size<1
 ·have hr:check s.data.toList=180:=by
   unfold check;rw[if_neg];intro h;have:s.data.toList.length=s.size:=rfl;omega
  rw[hr];clear hr
  go_enter Tryz.func163, Tryz.ntmps163
  go_wp2
  go_ret
  exact⟨rfl,Below.refl _ _⟩
 by_cases h2:64<s.size
 ·have hr:check s.data.toList=180:=by
   unfold check;rw[if_neg];intro h;have:s.data.toList.length=s.size:=rfl;omega
  rw[hr];clear hr
  go_enter Tryz.func163, Tryz.ntmps163
  go_wp2
  go_ret
  exact⟨rfl,Below.refl _ _⟩
 go_enter Tryz.func163, Tryz.ntmps163
 go_wp2_with fail
 go_loopw [4] (fun _ wr=>∃pos:Nat,pos<=s.size/\wr=w.iter s pos/\(s.data.toList.take pos).all okB=true) (fun _ wr=>s.size-wr.iterPos w.heap.size)
 case atStart=>exact⟨0,by omega,rfl,by simp⟩
 case round =>
  obtain⟨pos,hp,rfl,hall⟩:=hrel;have Hall:=Lib.hid hall;clear hall;by_cases hlt:pos<s.size
  ·by_cases ha:(s[pos]'hlt).toNat<128
   ·have hnx:∀ty,(Instr.next (.pointer (some ⟨w.heap.size,0,none⟩)) true ty).run Tryz.prog (w.iter s pos)=_:=fun ty=>run_next_ascii w s pos ty hlt ha
    by_cases hk:okRune ((s[pos]'hlt).toNat:Int)=true
    ·have HK:=Lib.hid hk
     clear hk;go_wp2_with (go_at_call 202;refine(letter_any _ _).mono ?_;rintro e w' ⟨rfl,rfl⟩;rw[HK.out])
     go_roundw
     case rel =>
      refine⟨pos+1,by omega,rfl,?_⟩;rw[all_take_succ s okB pos hlt,Hall.out,okB,HK.out];rfl
     case measure=>simp;omega
    ·simp only[Bool.not_eq_true] at hk
     have HK:=Lib.hid hk;clear hk;go_wp2_with (go_at_call 202;refine(letter_any _ _).mono ?_;rintro e w' ⟨rfl,rfl⟩;rw[HK.out])
     go_ret
     have hno:=all_of_not s okB pos hlt HK.out;refine⟨ret_int ?_,below_iter (Below.refl _ _) (Nat.le_refl _) _ _⟩;unfold check;rw[if_neg (by rw[hno];simp)]
   ·have hnx:∀ty,(Instr.next (.pointer (some ⟨w.heap.size,0,none⟩)) true ty).run Tryz.prog (w.iter s pos)=_:=fun ty=>run_next_any w s pos ty hlt
    have hd:=(decode_high s pos hlt (by omega)).1;have hk:okRune ((Utf8.decode s pos).1:Int)=false:=by simp[okRune];omega
    have HK:=Lib.hid hk;clear hk;go_wp2_with (go_at_call 202;refine(letter_any _ _).mono ?_;rintro e w' ⟨rfl,rfl⟩;rw[HK.out])
    go_ret
    have hno:=all_of_not s okB pos hlt (okB_high _ (by omega));refine⟨ret_int ?_,below_iter (Below.refl _ _) (Nat.le_refl _) _ _⟩;unfold check;rw[if_neg (by rw[hno];simp)]
  ·have hnx:∀ty,(Instr.next (.pointer (some ⟨w.heap.size,0,none⟩)) true ty).run Tryz.prog (w.iter s pos)=_:=fun ty=>run_next_end w s pos ty hlt
   go_wp2_with fail
   go_ret
   refine⟨ret_int ?_,below_iter (Below.refl _ _) (Nat.le_refl _) _ _⟩;have hall:=Hall.out;rw[List.take_of_length_le (by simp;omega)] at hall;have hl:s.data.toList.length=s.size:=rfl;unfold check;rw[if_pos ⟨by omega,by omega,hall⟩]
end Nm
end Go.Proofs.YtphfmgapiimliaaGreat
namespace Go.Proofs.YtphfmgapiimliaaGreat
namespace Nf
open Go.RowKit
def maniN:ByteArray:=⟨#[109,97,110,105,102,101,115,116]⟩
def tempN:ByteArray:=⟨#[109,97,110,105,102,101,115,116,46,110,101,119]⟩
theorem manifest_any (w:World):Calls Tryz.prog 114 #[] w fun e w'=>e=.returned (.string maniN)/\w=w':=by
 go_enter Tryz.func114, Tryz.ntmps114
 go_wp2_with fail
 go_ret
 exact⟨rfl,rfl⟩
theorem temp_any (w:World):Calls Tryz.prog 113 #[] w fun e w'=>e=.returned (.string tempN)/\w=w':=by
 go_enter Tryz.func113, Tryz.ntmps113
 go_wp2_with fail
 go_ret
 exact⟨rfl,rfl⟩
end Nf
end Go.Proofs.YtphfmgapiimliaaGreat
