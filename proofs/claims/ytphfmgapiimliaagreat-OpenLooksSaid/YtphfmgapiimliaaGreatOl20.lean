/- frame: Put, Get. strings.HasPrefix; scan.begun. When a log's state may be: plain. head.Next, head.End, of any blocks. -/
import Derived.Test.YtphfmgapiimliaaGreatOl19
import Derived.Test.YtphfmgapiimliaaGreatOl17
import Derived.Test.YtphfmgapiimliaaGreatOl08
import Derived.Test.YtphfmgapiimliaaGreatOl16
namespace Go.Proofs.YtphfmgapiimliaaGreat
namespace Fm
open Go.RowKit Cr
def frA (k:UInt8) (b:ByteArray):ByteArray:=⟨#[k]⟩++⟨(le 4 b.size).toArray⟩++b
def frB (k:UInt8) (b:ByteArray):ByteArray:=frA k b++⟨(le 4 (crc (frA k b).data.toList)).toArray⟩
theorem size_frA (k:UInt8) (b:ByteArray):(frA k b).size=b.size+5:=by
 unfold frA;rw[ByteArray.size_append,ByteArray.size_append];show 1+(le 4 b.size).toArray.size+b.size=_
 rw[List.size_toArray,length_le];omega
set_option maxHeartbeats 3200000 in
set_option maxRecDepth 100000 in
theorem put_any (k:UInt8) (b:ByteArray) (w:World) (hk:1<=k.toNat/\k.toNat<=4) (hb:b.size<=60000) :
  Calls Tryz.prog 109 #[.int .i64 (k.toNat:Int),.string b] w fun e w'=>e=.returned (.tuple #[.string (frB k b),.int .i64 0])/\Below w.heap.size w w':=by
 have mixed:Tryz.prog.follows .mixedOrders=true:=by kernel_rfl
 have HK:=Lib.hid (known_yes k.toNat w hk);have HF:=Lib.hid (fix_any b.size w (by omega));have q1: ¬ (60000:Int)<(b.size:Int):=by omega
 have q2:(k.toNat:Int)%256=(k.toNat:Int):=by omega
 go_enter Tryz.func109, Tryz.ntmps109
 go_wp2_with fail
 refine HK.out.mono ?_;rintro e1 w1 ⟨rfl,rfl⟩;go_wp2_with fail
 refine HF.out.mono ?_;rintro e2 w2 ⟨rfl,hb2⟩;have hrd:Rd (w2.alloc (.cells #[.int .u8 (k.toNat:Int)] 5)) (w2.alloc (.cells #[.int .u8 (k.toNat:Int)] 5)).heap.size 1 (some ⟨w2.heap.size,0,none⟩) 1 (bv [k]):=Rd.of_own (World.ownsRow_lit (base:=w2.heap.size) (e:=5) (size:=1) w2 #[.int .u8 (k.toNat:Int)] 1 (Nat.le_refl _) (by simp[maxLen]) rfl);have hs:=run_str (l:=[k]) (c:=1) hrd;have HW2:=Lib.hid (hb2.trans ((ext_alloc w2 (.cells #[.int .u8 (k.toNat:Int)] 5)).mono hb2.size));have hl1: ¬ 9223372036854775807<1+(le 4 b.size).length:=by rw[length_le];omega
 have hl2: ¬ 9223372036854775807<1+(le 4 b.size).length+b.size:=by rw[length_le];omega
 have HA:=Lib.hid (show({ data:=#[k] }:ByteArray)++{ data:=(le 4 b.size).toArray }++b=frA k b from rfl);have HOF:=Lib.hid (fun(wx:World)=>of_any (frA k b) wx (by rw[size_frA];omega));have HFX:=Lib.hid (fun(wx:World)=>fix_any (crc (frA k b).data.toList) wx (crc_lt _));have HTA:=Lib.hid (table_any (w2.alloc (.cells #[.int .u8 (k.toNat:Int)] 5)));have hc:=crc_lt (frA k b).data.toList;have HB:=Lib.hid (show frB k b=frA k b++⟨(le 4 (crc (frA k b).data.toList)).toArray⟩ from rfl);have hsz:=size_frA k b;clear hb2 hrd;generalize crc (frA k b).data.toList=C at *
 have h64:IntKind.i64.wrap (C:Int)=(C:Int):=by rw[IntKind.wrap_i64];omega
 go_wp2_with fail
 rw[HA.out];generalize frA k b=F at *
 refine HTA.out.mono ?_;rintro e3 w3 ⟨rfl,hb3⟩;have HW3:=Lib.hid (HW2.out.trans (hb3.mono HW2.out.size));clear hb3 hs hl1 hl2;go_wp2_with fail
 refine(HOF.out w3).mono ?_;rintro e4 w4 ⟨rfl,hb4⟩;have HW4:=Lib.hid (HW3.out.trans (hb4.mono HW3.out.size));clear hb4;go_wp2_with fail
 refine(HFX.out w4).mono ?_;rintro e5 w5 ⟨rfl,hb5⟩;have HW5:=Lib.hid (HW4.out.trans (hb5.mono HW4.out.size));have hl3: ¬ 9223372036854775807<F.size+(le 4 C).length:=by rw[length_le];omega
 clear hb5;go_wp2_with fail
 go_ret2
 exact⟨by rw[HB.out];rfl,HW5.out⟩
set_option maxHeartbeats 3200000 in
set_option maxRecDepth 100000 in
theorem Get_any (s:ByteArray) (p:Nat) (w:World) (hs:s.size<=1000000) (hp:p<=2000000) :
  Calls Tryz.prog 128 #[.string s,.int .i64 (p:Int)] w fun e w'=>FrAns s p e/\Below w.heap.size w w':=by
 have mixed:Tryz.prog.follows .mixedOrders=true:=by kernel_rfl
 have hz:(Tryz.prog.info? 217).map (fun i=>(i.zero,i.size))=some (some (.agg (Array.replicate 256 (.int .u32 0))),256):=by kernel_rfl
 have hsz:(Tryz.prog.info? 217).map (·.size)=some 256:=by kernel_rfl
 have HZ:=Lib.hid hz;have HSI:=Lib.hid hsz;have HT:=Lib.hid (table_any (w.alloc (.cells #[.int .i64 0,.string ⟨#[]⟩,.int .i64 0,.int .i64 0] 177)));have HB0:=Lib.hid (ext_alloc w (.cells #[.int .i64 0,.string ⟨#[]⟩,.int .i64 0,.int .i64 0] 177));have HF0:=Lib.hid (Fb.new w);have HTL:=Lib.hid (show TB.size=256 by unfold TB;rw[List.size_toArray,length_vu,length_n256]);have HT1:=Lib.hid (show TB.all (·.oneCell')=true from all_oneCell_toArray (vu_one _));have HLT:=Lib.hid (show w.heap.size<(w.alloc (.cells #[.int .i64 0,.string ⟨#[]⟩,.int .i64 0,.int .i64 0] 177)).heap.size by simp);clear hz hsz
 go_enter Tryz.func128, Tryz.ntmps128
 go_wp2_with fail
 generalize w.alloc (.cells #[.int .i64 0,.string ⟨#[]⟩,.int .i64 0,.int .i64 0] 177)=w0 at *
 refine HT.out.mono ?_;rintro e1 w1 ⟨rfl,hb1⟩;have HG:=Lib.hid (get_any w1.heap.size s p (w1.alloc (.cells TB 217)) (tb_row w1) hs hp);have HB1:=Lib.hid (HB0.out.trans (hb1.mono HB0.out.size));have HB2:=Lib.hid (HB1.out.trans ((ext_alloc w1 (.cells TB 217)).mono HB1.out.size));have HF2:=Lib.hid ((HF0.out.below hb1 HLT.out).below (ext_alloc w1 (.cells TB 217)) (Nat.lt_of_lt_of_le HLT.out hb1.size));have HL2:=Lib.hid (show w.heap.size<(w1.alloc (.cells TB 217)).heap.size by have:=HLT.out;have:=hb1.size;simp;omega);clear hb1 HT;generalize TB=Z at *
 go_wp2_with (first|(refine wpList_alloc_zero rfl 217 rfl _ _ HZ.out ?_)|(refine wpList_store_new w1 (Array.replicate 256 (.int .u32 0)) rfl 217 (.tmp 6) (.tmp 7) rfl Z (by simp[go_sem,Act.eval]) (by simp[go_sem,Act.eval]) (by rw[HTL.out];exact HSI.out) (by rw[HTL.out];simp) HT1.out ?_))
 generalize w1.alloc (.cells Z 217)=w2 at *
 refine HG.out.mono ?_;rintro e3 w3 ⟨ha,hb3⟩;have HB3:=Lib.hid (HB2.out.trans (hb3.mono HB2.out.size));have HR3:=Lib.hid (HF2.out.below hb3 HL2.out);clear hb3 HG;rcases ha with ⟨hgf,rfl⟩|⟨hgf,x,hx,rfl⟩
 ·have HGF:=Lib.hid hgf
  have hR:=HR3.out;have r0:=hR.c0;have r1:=hR.c1;have r2:=hR.c2;have r3:=hR.c3;have f0:=hR.fz 0;have f1:=hR.fz 1;have f2:=hR.fz 2;have f3:=hR.fz 3;clear hR;unfold fagg;go_wp2_with fail
  refine bodyPost_ret (v:=.tuple #[fagg (by4 s.data.toList p) (fbody s p) p (fto s p),.int .i64 0]) (by simp[results,go_sem,r0,r1,r2,r3,fagg]) rfl ?_;exact⟨.inl ⟨HGF.out,rfl⟩,below_fill4 HB3.out (Nat.le_refl _)⟩
 ·have HGF:=Lib.hid (And.intro hgf hx)
  have hR:=HR3.out;have r0:=hR.c0;have r1:=hR.c1;have r2:=hR.c2;have r3:=hR.c3;have f0:=hR.fz 0;have f1:=hR.fz 1;have f2:=hR.fz 2;have f3:=hR.fz 3;clear hR;unfold fagg;go_wp2_with fail
  refine bodyPost_ret (v:=.tuple #[fagg 0 ⟨#[]⟩ 0 0,.int .i64 x]) (by simp[results,go_sem,r0,r1,r2,r3,fagg]) rfl ?_;exact⟨.inr ⟨HGF.out.1,x,HGF.out.2,rfl⟩,below_fill4 HB3.out (Nat.le_refl _)⟩
end Fm
end Go.Proofs.YtphfmgapiimliaaGreat
namespace Go.Proofs.YtphfmgapiimliaaGreat
namespace Sn
open Go.RowKit Hd Fm
def preB (s p:ByteArray):Bool:=decide (s.extract 0 p.size=p)
theorem preB_iff (s p:ByteArray):preB s p=true↔s.extract 0 p.size=p:=by unfold preB;rw[decide_eq_true_eq]
set_option maxHeartbeats 1600000 in
set_option maxRecDepth 100000 in
theorem beqL (a b:ByteArray) {r:Bool} (h:decide (a=b)=r):(a.toList==b.toList)=r:=by
 rw[ByteArray.toList_eq,ByteArray.toList_eq];subst h;by_cases hq:a=b
 ·subst hq;simp
 ·rw[decide_eq_false hq,beq_eq_false_iff_ne]
  intro e;obtain⟨⟨a⟩⟩:=a;obtain⟨⟨b⟩⟩:=b;exact hq (by simp only at e;rw[e])
theorem hp1 (s p:ByteArray) (w:World) {b:Bool} (h:preB s p=b):Calls Tryz.prog 233 #[.string s,.string p] w fun e w'=>e=.returned (.bool b)/\w=w':=by
 have mixed:Tryz.prog.follows .mixedOrders=true:=by kernel_rfl
 by_cases hs:p.size<=s.size
 ·have h1:decide (p.size<=s.size)=true:=decide_eq_true hs
  have hb:=Lib.hid (beqL (s.extract 0 p.size) p h);clear h
  go_enter Tryz.func233, Tryz.ntmps233
  go_wp2_with fail
  go_ret
  exact⟨ret_bool hb.out,rfl⟩
 ·have h1:decide (p.size<=s.size)=false:=decide_eq_false hs
  have hb:=Lib.hid (show false=b by
   subst h;rcases hq:preB s p with _|_
   ·rfl
   ·have:=congrArg ByteArray.size ((preB_iff s p).1 hq)
    rw[ByteArray.size_extract] at this;omega)
  clear h
  go_enter Tryz.func233, Tryz.ntmps233
  go_wp2_with fail
  go_ret
  exact⟨ret_bool hb.out,rfl⟩
theorem hp2 (s p:ByteArray) (w:World) {b:Bool} (h:preB s p=b):Calls Tryz.prog 185 #[.string s,.string p] w fun e w'=>e=.returned (.bool b)/\w=w':=by
 have mixed:Tryz.prog.follows .mixedOrders=true:=by kernel_rfl
 have H:=Lib.hid (fun w=>hp1 s p w h);clear h
 go_enter Tryz.func185, Tryz.ntmps185
 go_wp2_with fail
 refine(H.out _).mono ?_;rintro e1 w1 ⟨rfl,rfl⟩;go_wp2_with fail
 go_ret
 exact⟨rfl,rfl⟩
def hdrB (i g f:Nat):ByteArray:=frB 1 (hb i g f)
theorem hb_size (i g f:Nat) (h:1<=i/\i<=999999/\1<=g/\g<=999999/\1<=f/\f<=1000000000):(hb i g f).size<=27:=by
 have h3:=flat_len [i,g,f] (by intro x hx;simp at hx;omega);simp only[List.flatMap_cons,List.flatMap_nil,List.append_nil,List.length_cons,List.length_nil] at h3;unfold hb;show(List.toArray _).size<=27
 rw[List.size_toArray];omega
set_option maxHeartbeats 1600000 in
set_option maxRecDepth 100000 in
theorem begun_ok (s:ByteArray) (i g f:Nat) (w:World) (h:1<=i/\i<=999999/\1<=g/\g<=999999/\1<=f/\f<=1000000000) {b:Bool} (hp:preB s (hdrB i g f)=b) :
  Calls Tryz.prog 134 #[.string s,.agg #[.int .i64 (i:Int),.int .i64 (g:Int),.int .i64 (f:Int)]] w fun e w'=>e=.returned (.tuple #[.int .i64 (if b=true then((hdrB i g f).size:Int) else 0),.bool b])/\Below w.heap.size w w':=by
 have mixed:Tryz.prog.follows .mixedOrders=true:=by kernel_rfl
 have HH:=Lib.hid (hput_yes i g f (w.alloc (.cells #[.int .i64 (i:Int),.int .i64 (g:Int),.int .i64 (f:Int)] 35)) h);have HB:=Lib.hid (ext_alloc w (.cells #[.int .i64 (i:Int),.int .i64 (g:Int),.int .i64 (f:Int)] 35));have HP:=Lib.hid (fun w=>put_any 1 (hb i g f) w (by decide) (by have:=hb_size i g f h;omega));have hsz:=hb_size i g f h;have HX:=Lib.hid (fun w=>hp2 s (hdrB i g f) w hp);have HE:=Lib.hid (show frB 1 (hb i g f)=hdrB i g f from rfl);rw[HE.out] at HP;generalize hdrB i g f=D at *
 generalize hb i g f=E at *
 clear h hp;rcases b with _|_
 all_goals
  go_enter Tryz.func134, Tryz.ntmps134
  go_wp2_with fail
  refine HH.out.mono ?_;rintro e1 w1 ⟨rfl,hb1⟩;have HB1:=Lib.hid (HB.out.trans (hb1.mono HB.out.size));clear hb1;go_wp2_with fail
  refine(HP.out _).mono ?_;rintro e2 w2 ⟨rfl,hb2⟩;have HB2:=Lib.hid (HB1.out.trans (hb2.mono HB1.out.size));clear hb2;go_wp2_with fail
  refine(HX.out _).mono ?_;rintro e3 w3 ⟨rfl,rfl⟩;go_wp2_with fail
  go_ret2
  exact⟨rfl,HB2.out⟩
set_option maxHeartbeats 1600000 in
set_option maxRecDepth 100000 in
theorem begun_no (s:ByteArray) (i g f:Int) (w:World) (h:okH i g f=false) :
  Calls Tryz.prog 134 #[.string s,.agg #[.int .i64 i,.int .i64 g,.int .i64 f]] w fun e w'=>e=.returned (.tuple #[.int .i64 0,.bool false])/\Below w.heap.size w w':=by
 have mixed:Tryz.prog.follows .mixedOrders=true:=by kernel_rfl
 have HH:=Lib.hid (hput_no i g f (w.alloc (.cells #[.int .i64 i,.int .i64 g,.int .i64 f] 35)) h);have HB:=Lib.hid (ext_alloc w (.cells #[.int .i64 i,.int .i64 g,.int .i64 f] 35));clear h
 go_enter Tryz.func134, Tryz.ntmps134
 go_wp2_with fail
 refine HH.out.mono ?_;rintro e1 w1 ⟨rfl,hb1⟩;have HB1:=Lib.hid (HB.out.trans (hb1.mono HB.out.size));clear hb1;go_wp2_with fail
 go_ret2
 exact⟨rfl,HB1.out⟩
end Sn
end Go.Proofs.YtphfmgapiimliaaGreat
namespace Go.Proofs.YtphfmgapiimliaaGreat
namespace Op
open Go.RowKit Hd Rd Sn
def hdOf (s:St):En:=s.mf.es.getLast?.getD default
def hsz (i g f:Int):Int:=((hdrB i.toNat g.toNat f.toNat).size:Int)
def endI (x:En) (l:List Mi):Int:=match l.getLast? with
 |none=>hsz x.i x.g x.f
 |some m=>m.a+m.s
def nextI (f:Int) (l:List Mi):Int:=match l.getLast? with
 |none=>f
 |some m=>m.f+m.c
def timeM:Int->List Mi->Option Int
 |t,[]=>some t
 |t,m::l=>if m.e<t then none else timeM m.l l
def timeR:Int->List Rc->Option Int
 |t,[]=>some t
 |t,r::l=>if r.2.1<t then none else timeR r.2.1 l
def timedB (s:St):Bool:=match timeM (lateE s.mf.es) s.bs with
 |none=>false
 |some t=>match timeR t s.wt with
  |none=>false
  |some t=>decide (t<=s.nw/\s.mf.t<=s.nw/\s.nw<=1000000000)
def rawR (l:List Rc):Nat:=l.foldl (fun n r=>min (n+(recB r).length) 1000000) 0
def keptB (s:St):Bool:=okCf s.cf&&okMf s.mf
def firstM (f:Int):List Mi->Bool
 | []=>true
 |m::_=>decide (m.f=f)
def firstR (f:Int):List Rc->Bool
 | []=>true
 |r::_=>decide (r.1=f)
def laidB (s:St):Bool:=okBi s.bs&&(decide (endI (hdOf s) s.bs=s.sz)&&firstM (hdOf s).f s.bs)
def waitsB (s:St):Bool:=decide (Rd.rowE none s.wt=0)&&(decide ((rawR s.wt:Int)<s.cf.b)&&(decide (s.nx=nextI (hdOf s).f s.bs+s.wt.length)&&firstR (nextI (hdOf s).f s.bs) s.wt))
def okSt (s:St):Bool:=keptB s&&(laidB s&&(waitsB s&&timedB s))
end Op
end Go.Proofs.YtphfmgapiimliaaGreat
namespace Go.Proofs.YtphfmgapiimliaaGreat
namespace Op
open Go.RowKit Hd Bk Sn Dk Fm
theorem fsize_any (s:ByteArray) (w:World) (h:s.size<=1000000):Calls Tryz.prog 104 #[.string s] w fun e w'=>e=.returned (.int .i64 ((s.size:Int)+9))/\w=w':=by
 have h1:(0:Int)<=(s.size:Int):=by omega
 have h2:(s.size:Int)<=1000000:=by omega
 clear h
 go_enter Tryz.func104, Tryz.ntmps104
 go_wp2_with fail
 go_ret
 exact⟨ret_int (by first|omega|(simp only[wrap64];omega)),rfl⟩
theorem frB_size (k:UInt8) (b:ByteArray):(frB k b).size=b.size+9:=by
 unfold frB;rw[ByteArray.size_append,size_frA];show _+(le 4 _).toArray.size=_
 rw[List.size_toArray,length_le]
theorem hsz_of {i g f:Nat} (h:1<=i/\i<=999999/\1<=g/\g<=999999/\1<=f/\f<=1000000000):hsz i g f=((hb i g f).size:Int)+9/\(hb i g f).size<=1000:=by
 have:=hb_size i g f h;have h2:(hdrB i g f).size=(hb i g f).size+9:=frB_size 1 (hb i g f);unfold hsz;simp only[Int.toNat_natCast];rw[h2];refine⟨by push_cast;rfl,by omega⟩
theorem getLast_map {α β:Type} (f:α->β) (l:List α):(l.map f).getLast? =l.getLast?.map f:=by
 rw[List.getLast?_eq_getElem?,List.getLast?_eq_getElem?,List.length_map,List.getElem?_map]
theorem nextI_any (A:Option Addr) (n c:Nat) (i g f:Int) (l:List Mi) (w:World) (hrd:Rd w w.heap.size 7 A n (flS l)) (hn:n<=100000) (ho:okBi l=true) (hf:1<=f) :
  Calls Tryz.prog 53 #[.agg #[.int .i64 i,.int .i64 g,.int .i64 f],.slice A n c] w fun e w'=>e=.returned (.int .i64 (nextI f l))/\Below w.heap.size w w':=by
 obtain⟨h1,h2⟩:=okBl_of ho;have:=next_any A n c i g f f.toNat (l.map toMt) w (by rw[h2];exact hrd) hn h1 (by omega);refine this.mono ?_;rintro e w' ⟨rfl,hb⟩;refine⟨ret_int ?_,hb⟩;unfold nextM nextI;rw[getLast_map];unfold okBi at ho;rw[Bool.and_eq_true] at ho;rcases hl:l.getLast? with _|m
 ·simp;omega
 ·have hm:=(okMi_iff m).1 (rowG_mem l none ho.2 m (List.mem_of_getLast? hl))
  simp only[Option.map_some,toMt]
  push_cast
  omega
set_option maxHeartbeats 3200000 in
set_option maxRecDepth 100000 in
theorem endI_no (A:Option Addr) (n c:Nat) (i g f:Nat) (l:List Mi) (w:World) (hh:1<=i/\i<=999999/\1<=g/\g<=999999/\1<=f/\f<=1000000000) (hrd:Rd w w.heap.size 7 A n (flS l)) (hn:n<=1000000) (ho:okBi l=false) :
  Calls Tryz.prog 62 #[.agg #[.int .i64 (i:Int),.int .i64 (g:Int),.int .i64 (f:Int)],.slice A n c] w fun e w'=>e=.returned (.tuple #[.int .i64 0,.int .i64 211])/\Below w.heap.size w w':=by
 have HP:=Lib.hid (fun w=>hput_yes i g f w hh);have HB:=Lib.hid (fun wx (hx:Below w.heap.size w wx)=>blocksI_any A n c l wx ((hrd.below hx).more hx.size) hn);rw[bE_no ho] at HB;have B2:=ext_alloc w (.cells #[.int .i64 (i:Int),.int .i64 (g:Int),.int .i64 (f:Int)] 35);generalize hb i g f=H at *
 clear hrd ho hh
 go_enter Tryz.func62, Tryz.ntmps62
 go_wp2_with (first
  |(go_at_call 102;refine(HP.out _).mono ?_;rintro e1 w1 ⟨rfl,hb1⟩;have HW1:=Lib.hid (B2.trans (hb1.mono B2.size));clear hb1 B2)
  |(go_at_call 103;refine(HB.out _ HW1.out).mono ?_;rintro e2 w2 ⟨rfl,hb2⟩;have HW2:=Lib.hid (HW1.out.trans (hb2.mono HW1.out.size));clear hb2))
 go_ret2
 exact⟨rfl,HW2.out⟩
set_option maxHeartbeats 3200000 in
set_option maxRecDepth 100000 in
theorem endI_yes (A:Option Addr) (n c:Nat) (i g f:Nat) (l:List Mi) (w:World) (hh:1<=i/\i<=999999/\1<=g/\g<=999999/\1<=f/\f<=1000000000) (hrd:Rd w w.heap.size 7 A n (flS l)) (hn:n<=100000) (ho:okBi l=true) :
  Calls Tryz.prog 62 #[.agg #[.int .i64 (i:Int),.int .i64 (g:Int),.int .i64 (f:Int)],.slice A n c] w fun e w'=>e=.returned (.tuple #[.int .i64 (endI ⟨i,g,f,false,0,0,0,0,0⟩ l),.int .i64 0])/\Below w.heap.size w w':=by
 obtain⟨h1,h2⟩:=okBl_of ho;obtain⟨hs1,hs2⟩:=hsz_of hh;have hl:=rdS_len hrd;have HP:=Lib.hid (fun w=>hput_yes i g f w hh);have HB:=Lib.hid (fun wx (hx:Below w.heap.size w wx)=>blocksI_any A n c l wx ((hrd.below hx).more hx.size) (by omega));rw[bE_yes ho] at HB;have B2:=ext_alloc w (.cells #[.int .i64 (i:Int),.int .i64 (g:Int),.int .i64 (f:Int)] 35);unfold endI;rcases hg:l.getLast? with _|m
 ·have hl0:l=[]:=List.getLast?_eq_none_iff.1 hg
  subst hl0;simp only[List.length_nil] at hl;subst hl;dsimp only;have HL:=Lib.hid (fun wx=>last_nil A c wx);unfold Bk.magg at HL;have HZ:=Lib.hid (fun wx=>fsize_any (hb i g f) wx (by omega));rw[<-hs1] at HZ;generalize hb i g f=H at *
  generalize hsz i g f=Z at *
  clear hrd ho hh hs1 hs2 hg h1 h2
  go_enter Tryz.func62, Tryz.ntmps62
  go_wp2_with (first
   |(go_at_call 102;refine(HP.out _).mono ?_;rintro e1 w1 ⟨rfl,hb1⟩;have HW1:=Lib.hid (B2.trans (hb1.mono B2.size));clear hb1 B2)
   |(go_at_call 103;refine(HB.out _ HW1.out).mono ?_;rintro e2 w2 ⟨rfl,hb2⟩;have HW2:=Lib.hid (HW1.out.trans (hb2.mono HW1.out.size));clear hb2)
   |(go_at_call 93;refine(HL.out _).mono ?_;rintro e3 w3 ⟨rfl,hb3⟩;have HW3:=Lib.hid (HW2.out.trans (hb3.mono HW2.out.size));clear hb3)
   |(go_at_call 104;refine(HZ.out _).mono ?_;rintro e4 w4 ⟨rfl,rfl⟩))
  go_ret2
  exact⟨rfl,HW3.out.trans ((ext_alloc w3 _).mono HW3.out.size)⟩
 ·dsimp only
  have hn0:0<n:=by
   rcases l with _|⟨x,l⟩
   ·cases hg
   ·simp at hl;omega
  have hmem:okMi m=true:=by
   unfold okBi at ho;rw[Bool.and_eq_true] at ho;exact rowG_mem l none ho.2 m (List.mem_of_getLast? hg)
  have hok:=(okMi_iff m).1 hmem;have HL:=Lib.hid (fun wx (hx:Below w.heap.size w wx)=>last_ok A n c (l.map toMt) (toMt m) wx (by rw[h2];exact hrd.ext hx) hn0 hn (by rw[getLast_map,hg];rfl) h1);rw[mv_of hmem] at HL;obtain⟨ma,ms,mr,mc,mf,me,ml⟩:=m;unfold mvI at HL;dsimp only at HL hok ⊢;have hw:IntKind.i64.wrap (ma+ms)=ma+ms:=by rw[IntKind.wrap_i64];omega
  generalize hb i g f=H at *
  clear hrd ho hh hs1 hs2 hg hok hl hmem h1 h2
  go_enter Tryz.func62, Tryz.ntmps62
  go_wp2_with (first
   |(go_at_call 102;refine(HP.out _).mono ?_;rintro e1 w1 ⟨rfl,hb1⟩;have HW1:=Lib.hid (B2.trans (hb1.mono B2.size));clear hb1 B2)
   |(go_at_call 103;refine(HB.out _ HW1.out).mono ?_;rintro e2 w2 ⟨rfl,hb2⟩;have HW2:=Lib.hid (HW1.out.trans (hb2.mono HW1.out.size));clear hb2)
   |(go_at_call 93;refine(HL.out _ HW2.out).mono ?_;rintro e3 w3 ⟨rfl,hb3⟩;have HW3:=Lib.hid (HW2.out.trans (hb3.mono HW2.out.size));clear hb3))
  go_ret2
  refine⟨?_,HW3.out.trans ((ext_alloc w3 _).mono HW3.out.size)⟩
  first
   |rfl
   |(rw[<-hw];rfl)
   |(show Ending.returned (.tuple #[.int .i64 (wrap64 (ma+ms)),.int .i64 0])=_;rw[show wrap64 (ma+ms)=ma+ms from by rw[<-hw,IntKind.wrap_i64];rfl])
end Op
end Go.Proofs.YtphfmgapiimliaaGreat
