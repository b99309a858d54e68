/- record.Put. record.Join. varveref15: Put, Join. append in a region that draws, elements of whatever size: putting one element into a row. The reference's code lengths: packages that hold their symbols: the same lengths. Plain lists, no program. varveref08.Thing: things as cells; put. -/
import Derived.Test.YtjligbmickfbdaaGreatBe48
import Derived.Test.YtjligbmickfbdaaGreatBe03
import Derived.Laws.OwnMore
import Derived.Maps.AppendAt
import Derived.Test.YtjligbmickfbdaaGreatBe22
import Derived.Deep.RegionHeld3
namespace Go.Proofs.YtjligbmickfbdaaGreat
namespace Rd
open Go.RowKit Vi Bd
theorem Bb_below {w w':World} {B b:Nat} {l:List UInt8} (h:Bb w B b l) (hb:Below w.heap.size w w'):Bb w' B b l:=h.keep hb.size fun k _ hk=>hb.block k hk
theorem vtxt_list (n:Nat):(vtxt n).data.toList=putV n:=by simp[vtxt]
theorem vtxt_size (n:Nat):(vtxt n).size=(putV n).length:=by simp[vtxt,ByteArray.size]
def acc3 (q t d k:Nat):List UInt8:=([q,t,d].take k).flatMap putV
set_option maxHeartbeats 6400000 in
set_option maxRecDepth 100000 in
theorem rput_any (q t:Nat) (d:ByteArray) (w:World) (h:ok1 ((q:Int),(t:Int),d)=true) :
  Calls Tryz.prog 64 #[.agg #[.int .i64 (q:Int),.int .i64 (t:Int),.string d]] w fun e w'=>e=.returned (.tuple #[.string ⟨(recB ((q:Int),(t:Int),d)).toArray⟩,.int .i64 0])/\Below w.heap.size w w':=by
 have mixed:Tryz.prog.follows .mixedOrders=true:=by kernel_rfl
 have hc:=check_any q t d;simp only[cE_ok h] at hc;have HC:=Lib.hid hc;rw[ok1_iff] at h;simp only at h;have l1:(putV q).length<=9:=length_putV_le q 8 (by omega);have l2:(putV t).length<=9:=length_putV_le t 8 (by omega);have l3:(putV d.size).length<=9:=length_putV_le d.size 8 (by omega);have P1:=Lib.hid (fun w=>put_any q w (by omega));have P2:=Lib.hid (fun w=>put_any t w (by omega));have P3:=Lib.hid (fun w=>put_any d.size w (by omega));have hsz:d.size<=2000:=h.2.2.2.2;have hac:acc3 q t d.size 3++d.data.toList=recB ((q:Int),(t:Int),d):=by simp[acc3,recB]
 have HAC:=Lib.hid hac;clear hc h hac
 go_enter Tryz.func64, Tryz.ntmps64
 go_wp2_with fail
 refine(HC.out _).mono ?_;rintro e1 w1 ⟨rfl,hb1⟩;have cc:∀j,w1.cell? ⟨w.heap.size,j,none⟩=(w.alloc (.cells #[.int .i64 (q:Int),.int .i64 (t:Int),.string d] 53)).cell? ⟨w.heap.size,j,none⟩:=fun j=>hb1.cell (p:=⟨w.heap.size,j,none⟩) (by simp)
 have c0:w1.cell? ⟨w.heap.size,0,none⟩=some (.int .i64 (q:Int)):=by rw[cc,World.cell?_alloc_new];rfl
 have c1:w1.cell? ⟨w.heap.size,1,none⟩=some (.int .i64 (t:Int)):=by rw[cc,World.cell?_alloc_new];rfl
 have c2:w1.cell? ⟨w.heap.size,2,none⟩=some (.string d):=by rw[cc,World.cell?_alloc_new];rfl
 have hlt:w.heap.size<w1.heap.size:=by have:=hb1.size;simp at this;omega
 have hbb:=bb_new w1;have hd2:∀o:Obj,(w1.alloc o).cell? ⟨w.heap.size,2,none⟩=some (.string d):=fun o=>(World.cell?_alloc_lt w1 o ⟨w.heap.size,2,none⟩ hlt).trans c2
 have hd1:∀o:Obj,(w1.alloc o).cell? ⟨w.heap.size,1,none⟩=some (.int .i64 (t:Int)):=fun o=>(World.cell?_alloc_lt w1 o ⟨w.heap.size,1,none⟩ hlt).trans c1
 have hd0:∀o:Obj,(w1.alloc o).cell? ⟨w.heap.size,0,none⟩=some (.int .i64 (q:Int)):=fun o=>(World.cell?_alloc_lt w1 o ⟨w.heap.size,0,none⟩ hlt).trans c0
 have HB:=Lib.hid (show Below w.heap.size w (w1.alloc (.cells #[.pointer none,.slice none 0 0] 103)) from(ext_trans (ext_alloc w _) hb1).alloc (by omega) _);have HBB:=Lib.hid hbb;clear hb1 cc HC hbb;generalize hB:w1.heap.size=B at *
 have hB2:B<=(w1.alloc (.cells #[.pointer none,.slice none 0 0] 103)).heap.size:=by simp;omega
 have e0:=hd0 (.cells #[.pointer none,.slice none 0 0] 103);have e1:=hd1 (.cells #[.pointer none,.slice none 0 0] 103);have e2:=hd2 (.cells #[.pointer none,.slice none 0 0] 103);go_wp2_with fail
 clear hB c0 c1 c2 hd0 hd1 hd2 e0 e1;generalize w1.alloc (.cells #[.pointer none,.slice none 0 0] 103)=w4 at *
 have i0:∀w:World,(Instr.index 161 (.agg #[.int .i64 (q:Int),.int .i64 (t:Int),.int .i64 (d.size:Int)]) (.int .i64 0)).run Tryz.prog w=.ok (.int .i64 (q:Int)) w:=fun _=>by kernel_rfl
 have i1:∀w:World,(Instr.index 161 (.agg #[.int .i64 (q:Int),.int .i64 (t:Int),.int .i64 (d.size:Int)]) (.int .i64 1)).run Tryz.prog w=.ok (.int .i64 (t:Int)) w:=fun _=>by kernel_rfl
 have i2:∀w:World,(Instr.index 161 (.agg #[.int .i64 (q:Int),.int .i64 (t:Int),.int .i64 (d.size:Int)]) (.int .i64 2)).run Tryz.prog w=.ok (.int .i64 (d.size:Int)) w:=fun _=>by kernel_rfl
 go_loopw [23] (fun v wr=>∃k:Nat,v=.int .i64 k/\k<=3/\Hid (Bb wr B B (acc3 q t d.size k)/\Below B w4 wr/\B<=wr.heap.size)) (fun v _=>3-(intOf v).toNat)
 case atStart=>exact⟨0,by go_num,by omega,HBB.out,Below.refl _ _,hB2⟩
 case round =>
  obtain⟨k,rfl,hk,HX⟩:=hrel;by_cases hk3:k<3
  ·obtain rfl|rfl|rfl:k=0∨k=1∨k=2:=by omega
   ·skip
    go_wp2_with fail
    refine(P1.out _).mono ?_;rintro e2 w2 ⟨rfl,hb2⟩;have HB2:=Lib.hid hb2;have hbb:=Bb_below HX.out.1 hb2;have hW:=write_any B B (acc3 q t d.size 0) (vtxt q) w2 hbb (by rw[vtxt_size];unfold acc3;simp;omega) (by have:=HX.out.2.2;have:=hb2.size;omega);rw[vtxt_list] at hW;have HW:=Lib.hid hW;clear hW hbb hb2;go_wp2_with fail
    refine HW.out.mono ?_;rintro e3 w3 ⟨rfl,hbb3,hb3⟩;have hacc:acc3 q t d.size 0++putV q=acc3 q t d.size (0+1):=by simp[acc3]
    rw[hacc] at hbb3;have HX3:=Lib.hid (show Bb w3 B B (acc3 q t d.size (0+1))/\Below B w4 w3/\B<=w3.heap.size from⟨hbb3,(HX.out.2.1.trans (HB2.out.mono HX.out.2.2)).trans hb3,by have:=hb3.size;have:=HB2.out.size;have:=HX.out.2.2;omega⟩);clear hbb3 hb3 hacc HW HB2 HX;go_wp2_with fail
    exact⟨⟨0+1,by go_num,by omega,HX3.out⟩,by simp[intOf]⟩
   ·skip
    go_wp2_with fail
    refine(P2.out _).mono ?_;rintro e2 w2 ⟨rfl,hb2⟩;have HB2:=Lib.hid hb2;have hbb:=Bb_below HX.out.1 hb2;have hW:=write_any B B (acc3 q t d.size 1) (vtxt t) w2 hbb (by rw[vtxt_size];unfold acc3;simp;omega) (by have:=HX.out.2.2;have:=hb2.size;omega);rw[vtxt_list] at hW;have HW:=Lib.hid hW;clear hW hbb hb2;go_wp2_with fail
    refine HW.out.mono ?_;rintro e3 w3 ⟨rfl,hbb3,hb3⟩;have hacc:acc3 q t d.size 1++putV t=acc3 q t d.size (1+1):=by simp[acc3]
    rw[hacc] at hbb3;have HX3:=Lib.hid (show Bb w3 B B (acc3 q t d.size (1+1))/\Below B w4 w3/\B<=w3.heap.size from⟨hbb3,(HX.out.2.1.trans (HB2.out.mono HX.out.2.2)).trans hb3,by have:=hb3.size;have:=HB2.out.size;have:=HX.out.2.2;omega⟩);clear hbb3 hb3 hacc HW HB2 HX;go_wp2_with fail
    exact⟨⟨1+1,by go_num,by omega,HX3.out⟩,by simp[intOf]⟩
   ·skip
    go_wp2_with fail
    refine(P3.out _).mono ?_;rintro e2 w2 ⟨rfl,hb2⟩;have HB2:=Lib.hid hb2;have hbb:=Bb_below HX.out.1 hb2;have hW:=write_any B B (acc3 q t d.size 2) (vtxt d.size) w2 hbb (by rw[vtxt_size];unfold acc3;simp;omega) (by have:=HX.out.2.2;have:=hb2.size;omega);rw[vtxt_list] at hW;have HW:=Lib.hid hW;clear hW hbb hb2;go_wp2_with fail
    refine HW.out.mono ?_;rintro e3 w3 ⟨rfl,hbb3,hb3⟩;have hacc:acc3 q t d.size 2++putV d.size=acc3 q t d.size (2+1):=by simp[acc3]
    rw[hacc] at hbb3;have HX3:=Lib.hid (show Bb w3 B B (acc3 q t d.size (2+1))/\Below B w4 w3/\B<=w3.heap.size from⟨hbb3,(HX.out.2.1.trans (HB2.out.mono HX.out.2.2)).trans hb3,by have:=hb3.size;have:=HB2.out.size;have:=HX.out.2.2;omega⟩);clear hbb3 hb3 hacc HW HB2 HX;go_wp2_with fail
    exact⟨⟨2+1,by go_num,by omega,HX3.out⟩,by simp[intOf]⟩
  ·obtain rfl:k=3:=by omega
   have hcd:=(HX.out.2.1.cell (p:=⟨w.heap.size,2,none⟩) hlt).trans e2;have hW:=write_any B B (acc3 q t d.size 3) d wr HX.out.1 (by unfold acc3;simp;omega) HX.out.2.2;rw[HAC.out] at hW;have HW:=Lib.hid hW;clear hW;go_wp2_with fail
   refine HW.out.mono ?_;rintro e3 w3 ⟨rfl,hbb3,hb3⟩;have HS:=Lib.hid (string_any B B _ w3 hbb3 (by have:=hb3.size;have:=HX.out.2.2;omega));have HB3:=Lib.hid ((HX.out.2.1).trans hb3);clear hbb3 hb3 HW;go_wp2_with fail
   refine HS.out.mono ?_;rintro e4 w5 ⟨rfl,hb4⟩;have HB5:=Lib.hid (HB.out.trans ((HB3.out.trans hb4).mono (by omega)));clear hb4 HS HB3 hcd;go_wp2_with fail
   go_ret2
   exact⟨rfl,HB5.out⟩
end Rd
end Go.Proofs.YtjligbmickfbdaaGreat
namespace Go.Proofs.YtjligbmickfbdaaGreat
namespace Rd
open Go.RowKit Vi Bd
def jS (l:List (Int×Int×ByteArray)):ByteArray:=if jE l=0 then⟨(joinB l).toArray⟩ else⟨#[]⟩
theorem jS_ok {l:List (Int×Int×ByteArray)} (h:jE l=0):jS l=⟨(joinB l).toArray⟩:=if_pos h
theorem jS_no {l:List (Int×Int×ByteArray)} (h:jE l≠0):jS l=⟨#[]⟩:=if_neg h
theorem recB_le (r:Int×Int×ByteArray) (h:ok1 r=true):(recB r).length<=2027:=by
 rw[ok1_iff] at h;have l1:=length_putV_le r.1.toNat 8 (by omega);have l2:=length_putV_le r.2.1.toNat 8 (by omega);have l3:=length_putV_le r.2.2.size 8 (by omega);have:r.2.2.data.toList.length=r.2.2.size:=rfl;unfold recB;simp only[List.length_append];omega
theorem joinB_append (a b:List (Int×Int×ByteArray)):joinB (a++b)=joinB a++joinB b:=List.flatMap_append ..
theorem joinB_take {l:List (Int×Int×ByteArray)} {k:Nat} {r:Int×Int×ByteArray} (h:l[k]? =some r):joinB (l.take (k+1))=joinB (l.take k)++recB r:=by
 have e:l.take (k+1)=l.take k++[r]:=by rw[List.take_add_one,h];rfl
 rw[e,joinB_append];simp[joinB]
theorem joinB_le (l:List (Int×Int×ByteArray)) (k:Nat):(joinB (l.take k)).length<=(joinB l).length:=by
 conv=>rhs;rw[<-List.take_append_drop k l,joinB_append,List.length_append]
 omega
set_option maxHeartbeats 6400000 in
set_option maxRecDepth 100000 in
theorem join_any (A:Option Addr) (n c:Nat) (l:List (Int×Int×ByteArray)) (w:World) (hrd:Rd w w.heap.size 3 A n (fl3 l)) (hn:n<=1000000) :
  Calls Tryz.prog 33 #[.slice A n c] w fun e w'=>e=.returned (.tuple #[.string (jS l),.int .i64 (jE l)])/\Below w.heap.size w w':=by
 have mixed:Tryz.prog.follows .mixedOrders=true:=by kernel_rfl
 have hln:=rd3_len hrd;have HR:=Lib.hid hrd;have HW:=Lib.hid (row_any A n c l w hrd (by omega));clear hrd;by_cases hr:rowE none l=0
 ·have hok:=rowE_ok l none hr
  have HOK:=Lib.hid hok;have hje:20000<(joinB l).length->jE l=3:=fun h=>by unfold jE;rw[if_neg (by simp[hr]),if_pos h]
  have hje2: ¬ 20000<(joinB l).length->jE l=0:=fun h=>by unfold jE;rw[if_neg (by simp[hr]),if_neg h]
  have HJ:=Lib.hid (And.intro hje hje2);rw[hr] at HW;have P:=Lib.hid (fun q t d w h=>rput_any q t d w h);clear hok hje hje2 hr
  go_enter Tryz.func33, Tryz.ntmps33
  go_wp2_with fail
  refine HW.out.mono ?_;rintro e1 w1 ⟨rfl,hb1⟩;have HB:=Lib.hid (show Below w.heap.size w (w1.alloc (.cells #[.pointer none,.slice none 0 0] 103)) from hb1.alloc hb1.size _);have HBB:=Lib.hid (bb_new w1);have hlt:=hb1.size;clear HW hb1;go_wp2_with fail
  generalize hB:w1.heap.size=B at *
  have hB2:B<=(w1.alloc (.cells #[.pointer none,.slice none 0 0] 103)).heap.size:=by simp;omega
  clear hB;generalize w1.alloc (.cells #[.pointer none,.slice none 0 0] 103)=w4 at *
  go_loopw [17] (fun v wr=>∃k:Nat,v=.int .i64 k/\k<=n/\Hid (Bb wr B B (joinB (l.take k))/\Below B w4 wr/\B<=wr.heap.size/\(joinB (l.take k)).length<=20000)) (fun v _=>n-(intOf v).toNat)
  case atStart=>exact⟨0,by go_num,by omega,HBB.out,Below.refl _ _,hB2,by simp[joinB]⟩
  case round =>
   obtain⟨k,rfl,hk,HX⟩:=hrel;by_cases hkn:k<n
   ·have hbw:=HB.out.trans (HX.out.2.1.mono hlt)
    obtain⟨ad,q,t,d,rfl,hbk,hx,hc0,hc1,hc2⟩:=rec3 (HR.out.below hbw) hkn;have ho:ok1 (q,t,d)=true:=HOK.out _ (List.mem_of_getElem? hx);have hoo:=ho;rw[ok1_iff] at hoo;obtain⟨q,rfl⟩:=Int.eq_ofNat_of_zero_le (show 0<=q by have:=hoo.1;simp only at this;omega);obtain⟨t,rfl⟩:=Int.eq_ofNat_of_zero_le (show 0<=t by have:=hoo.2.2.1;simp only at this;omega);clear hoo hbw;have hle:=recB_le _ ho;have HT:=Lib.hid (joinB_take hx);have hlen:=HX.out.2.2.2;have HL:=Lib.hid (joinB_le l (k+1));go_wp2_with fail
    refine(P.out q t d _ ho).mono ?_;rintro e2 w2 ⟨rfl,hb2⟩;obtain⟨sb,hsb⟩:∃sb:ByteArray,sb=⟨(recB ((q:Int),(t:Int),d)).toArray⟩:=⟨_,rfl⟩
    have hs1:sb.size=(recB ((q:Int),(t:Int),d)).length:=by rw[hsb];simp[ByteArray.size]
    have hs2:sb.data.toList=recB ((q:Int),(t:Int),d):=by rw[hsb]
    have hT2:=congrArg List.length HT.out;rw[List.length_append] at hT2;rw[<-hsb];have HBB2:=Lib.hid (Bb_below (HX.out.1.keep (w':=wr.alloc (.cells #[.int .i64 (q:Int),.int .i64 (t:Int),.string d] 53)) (by simp) fun k _ hk=>Below.heap_alloc wr _ k hk) hb2);have HB2:=Lib.hid (ext_trans (ext_alloc wr _) hb2);have hLen:=Lib.hid (len_any B B _ w2 HBB2.out);have HB3:=Lib.hid (HX.out.2.1.trans (HB2.out.mono HX.out.2.2.1));have hB3:B<=w2.heap.size:=by have:=HB2.out.size;have:=HX.out.2.2.1;omega
    have HBW:=Lib.hid (HB.out.trans (HB3.out.mono hlt));have HS:=Lib.hid hs2;generalize hjl:(joinB (l.take k)).length=jl at *
    have hjl2:jl<=20000:=HX.out.2.2.2;have HJL:=Lib.hid hjl;have hbd:sb.size<=2027:=by omega
    have HT2:=Lib.hid hT2;have HS1:=Lib.hid hs1;clear hsb hs1 hs2 hT2 hb2 hle hjl P HOK ho HX hc0 hc1 hc2;go_wp2_with fail
    by_cases hbig:20000<jl+sb.size
    ·have hj3:jE l=3:=HJ.out.1 (by have:=HL.out;have:=HT2.out;have:=HS1.out;omega)
     have hcmp:(20000:Int)-(jl:Int)<(sb.size:Int):=by omega
     go_wp2_with fail
     refine hLen.out.mono ?_;rintro e3 w3 ⟨rfl,rfl⟩;go_wp2_with fail
     go_ret2
     rw[jS_no (by rw[hj3];decide),hj3];exact⟨rfl,HBW.out⟩
    ·have hcmp: ¬ (20000:Int)-(jl:Int)<(sb.size:Int):=by omega
     have HWr:=Lib.hid (write_any B B (joinB (l.take k)) sb w2 HBB2.out (by have:=HJL.out;omega) hB3);go_wp2_with fail
     refine hLen.out.mono ?_;rintro e3 w3 ⟨rfl,rfl⟩;go_wp2_with fail
     refine HWr.out.mono ?_;rintro e4 w5 ⟨rfl,hbb5,hb5⟩;rw[HS.out,<-HT.out] at hbb5;have HX5:=Lib.hid (show Bb w5 B B (joinB (l.take (k+1)))/\Below B w4 w5/\B<=w5.heap.size/\(joinB (l.take (k+1))).length<=20000 from
      ⟨hbb5,HB3.out.trans hb5,by have:=hb5.size;omega,by have:=HT2.out;have:=HS1.out;omega⟩)
     clear hbb5 hb5 HWr HBB2 HB3 HB2 hLen HS HT HT2 HS1 HJL hx;go_wp2_with fail
     exact⟨⟨k+1,by go_num,by omega,HX5.out⟩,by simp[intOf];omega⟩
   ·obtain rfl:k=n:=by omega
    have ht:l.take k=l:=List.take_of_length_le (by omega);have HX2:=Lib.hid HX.out;rw[ht] at HX2;have hj0:jE l=0:=HJ.out.2 (by have:=HX2.out.2.2.2;omega);have HJ0:=Lib.hid hj0;have HS:=Lib.hid (string_any B B _ wr HX2.out.1 HX2.out.2.2.1);clear HX ht hj0 P HOK;go_wp2_with fail
    refine HS.out.mono ?_;rintro e2 w2 ⟨rfl,hb2⟩;have HB5:=Lib.hid (HB.out.trans ((HX2.out.2.1.trans hb2).mono hlt));clear hb2 HS;go_wp2_with fail
    go_ret2
    rw[jS_ok HJ0.out,HJ0.out];exact⟨rfl,HB5.out⟩
 ·have hje:jE l=rowE none l:=by unfold jE;rw[if_pos hr]
  have hjs:=jS_no (l:=l) (by rw[hje];exact hr);rw[hje,hjs];generalize rowE none l=x at *
  have hb1:(x != 0)=true:=by rw[bne_iff_ne];exact hr
  have hb2:(x==0)=false:=by rw[beq_eq_false_iff_ne];exact hr
  clear hje hjs
  go_enter Tryz.func33, Tryz.ntmps33
  go_wp2_with fail
  refine HW.out.mono ?_;rintro e1 w1 ⟨rfl,hb1⟩;have HB1:=Lib.hid hb1;clear hb1;go_wp2_with fail
  go_ret2
  exact⟨rfl,HB1.out⟩
end Rd
end Go.Proofs.YtjligbmickfbdaaGreat
namespace Go.Proofs.YtjligbmickfbdaaGreat
namespace Rd
open Go.RowKit Vi Rf
set_option maxHeartbeats 6400000 in
set_option maxRecDepth 100000 in
theorem refrput_any (q t:Nat) (d:ByteArray) (w:World) (h:ok1 ((q:Int),(t:Int),d)=true) :
  Calls Tryz.prog 69 #[.agg #[.int .i64 (q:Int),.int .i64 (t:Int),.string d]] w fun e w'=>e=.returned (.tuple #[.string (rowT (recB ((q:Int),(t:Int),d))),.int .i64 0])/\Below w.heap.size w w':=by
 have hc:=refcheck15_any q t d;simp only[cE_ok h] at hc;have HC:=Lib.hid hc;rw[ok1_iff] at h;simp only at h;have l1:(vtxt q).size<=9:=by rw[vtxt_size];exact length_putV_le q 8 (by omega)
 have l2:(vtxt t).size<=9:=by rw[vtxt_size];exact length_putV_le t 8 (by omega)
 have l3:(vtxt d.size).size<=9:=by rw[vtxt_size];exact length_putV_le d.size 8 (by omega)
 have P1:=Lib.hid (fun w=>refput_any (q+1) q w (by omega) (by omega));have P2:=Lib.hid (fun w=>refput_any (t+1) t w (by omega) (by omega));have P3:=Lib.hid (fun w=>refput_any (d.size+1) d.size w (by omega) (by omega));have hsz:d.size<=2000:=h.2.2.2.2;have hcat:vtxt q++vtxt t++vtxt d.size++d=rowT (recB ((q:Int),(t:Int),d)):=by
  apply ByteArray.ext
  apply Array.toList_inj.1
  simp[ByteArray.data_append,vtxt,recB,rowT]
 have HCAT:=Lib.hid hcat;have f1:(vtxt q).size+(vtxt t).size<=9223372036854775807:=by omega
 have f2:(vtxt q++vtxt t).size+(vtxt d.size).size<=9223372036854775807:=by rw[ByteArray.size_append];omega
 have f3:(vtxt q++vtxt t++vtxt d.size).size+d.size<=9223372036854775807:=by rw[ByteArray.size_append,ByteArray.size_append];omega
 generalize rowT (recB ((q:Int),(t:Int),d))=RR at *
 generalize vtxt q=Ta at *
 generalize vtxt t=Tb at *
 generalize vtxt d.size=Tc at *
 obtain⟨w1,hw1⟩:∃w1,w1=w.alloc (.cells #[.int .i64 (q:Int),.int .i64 (t:Int),.string d] 53):=⟨_,rfl⟩
 have hb1:Below w.heap.size w w1:=by rw[hw1];exact ext_alloc w _
 have hz1:w.heap.size<w1.heap.size:=by rw[hw1];simp
 have hx0:w1.cell? ⟨w.heap.size,0,none⟩=some (.int .i64 (q:Int)):=by rw[hw1];exact cell_of_row _ w.heap.size 0 _ _ _ (heap_alloc_new w _)
 have hx1:w1.cell? ⟨w.heap.size,1,none⟩=some (.int .i64 (t:Int)):=by rw[hw1];exact cell_of_row _ w.heap.size 1 _ _ _ (heap_alloc_new w _)
 have hx2:w1.cell? ⟨w.heap.size,2,none⟩=some (.string d):=by rw[hw1];exact cell_of_row _ w.heap.size 2 _ _ _ (heap_alloc_new w _)
 have HCL:Hid (∀wx,Below w1.heap.size w1 wx->wx.cell? ⟨w.heap.size,0,none⟩=some (.int .i64 (q:Int))/\wx.cell? ⟨w.heap.size,1,none⟩=some (.int .i64 (t:Int))/\wx.cell? ⟨w.heap.size,2,none⟩=some (.string d)):=fun wx hb =>
  ⟨(hb.cell (p:=⟨w.heap.size,0,none⟩) hz1).trans hx0,(hb.cell (p:=⟨w.heap.size,1,none⟩) hz1).trans hx1,(hb.cell (p:=⟨w.heap.size,2,none⟩) hz1).trans hx2⟩
 clear hc h hcat hx0 hx1 hx2 hz1
 go_enter Tryz.func69, Tryz.ntmps69
 go_wp2_with fail
 rw[<-hw1];refine(HC.out w1).mono ?_;rintro e2 w2 ⟨rfl,hb2⟩;obtain⟨c0,c1,c2⟩:=HCL.out w2 hb2;clear hw1;go_wp2_with fail
 refine(P1.out w2).mono ?_;rintro e3 w3 ⟨rfl,hb3⟩;have hb13:=ext_trans hb2 hb3;clear c0 c1 c2;obtain⟨c0,c1,c2⟩:=HCL.out w3 hb13;go_wp2_with fail
 refine(P2.out w3).mono ?_;rintro e4 w4 ⟨rfl,hb4⟩;have hb14:=ext_trans hb13 hb4;clear c0 c1 c2;obtain⟨c0,c1,c2⟩:=HCL.out w4 hb14;go_wp2_with fail
 refine(P3.out w4).mono ?_;rintro e5 w5 ⟨rfl,hb5⟩;have hb15:=ext_trans hb14 hb5;clear c0 c1 c2;obtain⟨c0,c1,c2⟩:=HCL.out w5 hb15;go_wp2_with fail
 go_ret2
 exact⟨by rw[<-HCAT.out];rfl,ext_trans hb1 hb15⟩
theorem rowT_app (a b:List UInt8):rowT a++rowT b=rowT (a++b):=by
 apply ByteArray.ext
 simp[ByteArray.data_append,rowT]
set_option maxHeartbeats 6400000 in
set_option maxRecDepth 100000 in
theorem refjoin_any (A:Option Addr) (n c:Nat) (l:List (Int×Int×ByteArray)) (w:World) (hrd:Rd w w.heap.size 3 A n (fl3 l)) (hn:n<=1000000) :
  Calls Tryz.prog 34 #[.slice A n c] w fun e w'=>e=.returned (.tuple #[.string (jS l),.int .i64 (jE l)])/\Below w.heap.size w w':=by
 have mixed:Tryz.prog.follows .mixedOrders=true:=by kernel_rfl
 have hln:=rd3_len hrd;have HR:=Lib.hid hrd;have HW:=Lib.hid (refrow_any A n c l w hrd (by omega));have HLN:=Lib.hid hln;clear hrd hln;by_cases hr:rowE none l=0
 ·have hok:=rowE_ok l none hr
  have HOK:=Lib.hid hok;have HJ3:Hid (20000<(joinB l).length->jE l=3):=fun h=>by unfold jE;rw[if_neg (by simp[hr]),if_pos h]
  have HJ0:Hid (¬ 20000<(joinB l).length->jE l=0):=fun h=>by unfold jE;rw[if_neg (by simp[hr]),if_neg h]
  rw[hr] at HW;have P:=Lib.hid (fun q t d w h=>refrput_any q t d w h);clear hok hr
  go_enter Tryz.func34, Tryz.ntmps34
  go_wp2_with (go_at_call 68;refine HW.out.mono ?_;rintro e1 w1 ⟨rfl,hb1⟩)
  have H0:Aside (Below w.heap.size w w1):=hb1;clear hb1;go_loopg [5,6] n (fun kx s5 s6 wr=>∃(k:Nat),s6=.int .i64 (k:Int)/\s5=.string (rowT (joinB (l.take k)))/\k<=n/\n-k<=kx/\(joinB (l.take k)).length<=20000/\Aside (Below w.heap.size w wr))
  case atStart=>exact⟨0,by go_num,rfl,by omega,by omega,by simp[joinB],H0.out⟩
  case round =>
   clear H0;obtain⟨k,rfl,rfl,hk,hkk,hlen,H⟩:=hrel;by_cases hkn:k<n
   ·obtain⟨ad,q,t,d,rfl,hbk,hx,hc0,hc1,hc2⟩:=rec3 (HR.out.below H.out) hkn
    have hok:=HOK.out (q,t,d) (List.mem_of_getElem? hx);have hob:=(ok1_iff _).1 hok;simp only at hob;obtain⟨q,rfl⟩:=Int.eq_ofNat_of_zero_le (show 0<=q by omega);obtain⟨t,rfl⟩:=Int.eq_ofNat_of_zero_le (show 0<=t by omega);have HP:=Lib.hid (P.out q t d wr hok);have hst:=joinB_take hx;have hrl:=recB_le _ hok;have hcat:rowT (joinB (l.take k))++rowT (recB ((q:Int),(t:Int),d))=rowT (joinB (l.take (k+1))):=by rw[rowT_app,hst]
    have hz1:(rowT (joinB (l.take k))).size+(rowT (recB ((q:Int),(t:Int),d))).size<=9223372036854775807:=by rw[rowT_size,rowT_size];omega
    have hsz:(rowT (joinB (l.take (k+1)))).size=(joinB (l.take (k+1))).length:=rowT_size _;have hle:=joinB_le l (k+1);have HCAT:=Lib.hid hcat;have HB:=Lib.hid H.out;generalize joinB (l.take k)=X at *
    generalize hY:rowT (joinB (l.take (k+1)))=Y at *
    have HY:=Lib.hid hY;generalize rowT (recB ((q:Int),(t:Int),d))=R at *
    generalize rowT X=XT at *
    by_cases hbig:20000<(joinB (l.take (k+1))).length
    ·have hj3:=HJ3.out (by omega)
     have HJS:Hid (jS l=⟨#[]⟩):=jS_no (by rw[hj3];decide);have HJ:=Lib.hid hj3;have hY2:(20000:Int)<(Y.size:Int):=by omega
     clear hst hrl hcat hle hx hok hob hj3 hY hsz H;go_wp2_with (go_at_call 69;refine HP.out.mono ?_;rintro e2 w2 ⟨rfl,hb2⟩;have hcc:=HCAT.out)
     go_ret2
     exact⟨by rw[HJS.out,HJ.out];rfl,ext_trans HB.out hb2⟩
    ·have hY2: ¬ (20000:Int)<(Y.size:Int):=by omega
     have hYl:(joinB (l.take (k+1))).length<=20000:=by omega
     clear hst hrl hcat hle hx hok hob hY hsz H;go_wp2_with (go_at_call 69;refine HP.out.mono ?_;rintro e2 w2 ⟨rfl,hb2⟩;have hcc:=HCAT.out)
     have HB2:=Lib.hid (ext_trans HB.out hb2);go_roundg (n-(k+1))
     case measure=>omega
     case rel=>exact⟨k+1,by go_num,by rw[HY.out],by omega,by omega,hYl,HB2.out⟩
   ·obtain rfl:k=n:=by omega
    have ht:l.take k=l:=List.take_of_length_le (by rw[HLN.out];exact Nat.le_refl _);rw[ht] at hlen ⊢;have hj0:=HJ0.out (by omega);have HJS:Hid (jS l=rowT (joinB l)):=jS_ok hj0;have HJ:=Lib.hid hj0;clear hj0 ht;go_wp2_with fail
    go_ret2
    exact⟨by rw[HJS.out,HJ.out];rfl,H.out⟩
 ·have hje:jE l=rowE none l:=by unfold jE;rw[if_pos (by simpa using hr)]
  have HJS:Hid (jS l=⟨#[]⟩):=jS_no (by rw[hje];exact hr);have HJ:=Lib.hid hje;clear hje;generalize rowE none l=E at *
  have hne:(E != 0)=true:=by rw[bne_iff_ne];exact hr
  go_enter Tryz.func34, Tryz.ntmps34
  go_wp2_with (go_at_call 68;refine HW.out.mono ?_;rintro e1 w1 ⟨rfl,hb1⟩)
  go_ret2
  exact⟨by rw[HJS.out,HJ.out];rfl,hb1⟩
end Rd
end Go.Proofs.YtjligbmickfbdaaGreat
namespace Go.Proofs.YtjligbmickfbdaaGreat
namespace Rf
open Go.RowKit Go.Maps
structure El (t ts:TypeId) (z:Value) (sz bt:Nat):Prop where
 info:(Tryz.prog.info? t).map (fun i=>(i.zero,i.size,i.bytes))=some (some z,sz,bt)
 sl:Tryz.prog.underlying ts=some (.slice t)
 zc:z.cells.size=sz
 pos:0<sz
 small:bt<=64
theorem intEl:El 3 28 (.int .i64 0) 1 8:=⟨int_info,Tryz.underlying28,rfl,by decide,by decide⟩
structure ArgV (w:World) (sz:Nat) (A:Option Addr) (n c:Nat) (V:List Value):Prop where
 rd:Rd w w.heap.size sz A n V
 nc:n<=c
 cm:c<=maxLen
 no:A=none->c=0
section
variable {w w':World} {B sz n c k:Nat} {A:Option Addr} {t ts:TypeId} {z:Value} {bt:Nat} {v:Value} {V X:List Value}
theorem ArgV.ext (h:ArgV w sz A n c V) (hb:Below w.heap.size w w'):ArgV w' sz A n c V:=⟨h.rd.ext hb,h.nc,h.cm,h.no⟩
theorem argV_of_own (h:w.ownsRow B t sz v n V):∃A c,v=.slice A n c/\ArgV w sz A n c V:=by
 have h0:=h;obtain⟨A,c,rfl,h1,h2⟩:=own_slice h0;refine⟨A,c,rfl,Rd.of_own h,h1,h2,?_⟩;rintro rfl;rcases h.2 with ⟨hv,_⟩|⟨g,cap,cur,hv,_⟩
 ·simp only[Value.slice.injEq] at hv;exact hv.2.2
 ·cases hv
theorem ArgV.take (h:ArgV w sz A n c V) (hb:Below w.heap.size w w') (hk:k<=n):Rd w' w'.heap.size sz A k (V.take (k*sz)):=(h.rd.ext hb).take hk
theorem ArgV.drop0 (h:ArgV w sz A n c V) (hb:Below w.heap.size w w'):Rd w' w'.heap.size sz (if c=n then A else A.map (·.add (n*sz))) 0 (V.drop (n*sz)):=by
 have h1:=(h.rd.ext hb).drop (k:=n) (Nat.le_refl _) h.nc
 rwa [Nat.sub_self] at h1
theorem ArgV.drop0_no (h:ArgV w sz A n c V):(if c=n then A else A.map (·.add (n*sz)))=none->c-n=0:=by
 intro hh;split at hh
 ·omega
 ·cases A with
  |none=>have:=h.no rfl;omega
  |some ad=>cases hh
theorem ArgV.drop {ad:Addr} (h:ArgV w sz (some ad) n c V) (hb:Below w.heap.size w w') (hk:k<n):Rd w' w'.heap.size sz (some (ad.add (k*sz))) (n-k) (V.drop (k*sz)):=by
 have h1:=(h.rd.ext hb).drop (k:=k) (Nat.le_of_lt hk) h.nc;rw[if_neg (by have:=h.nc;omega)] at h1;exact h1
theorem ArgV.some (h:ArgV w sz A n c V) (hn:0<n):∃ad,A=.some ad:=by
 obtain⟨ad,e,_⟩:=h.rd.cells hn;exact⟨ad,e⟩
theorem ownV_empty (t:TypeId) (w:World):(w.alloc (.cells #[] t)).ownsRow w.heap.size t sz (.slice (.some ⟨w.heap.size,0,none⟩) 0 0) 0 [] :=
 World.ownsRow_lit w #[] 0 (Nat.le_refl _) (by simp[maxLen]) (by simp)
theorem rdV_new (t:TypeId) (w:World) (X:List Value) (hX:X.length=sz):Rd (w.alloc (.cells X.toArray t)) (w.alloc (.cells X.toArray t)).heap.size sz (.some ⟨w.heap.size,0,none⟩) 1 X:=by
 have:=Rd.of_own (World.ownsRow_lit (base:=w.heap.size) (e:=t) (size:=sz) w X.toArray 1 (Nat.le_refl _) (by simp[maxLen]) (by simp[hX]));simpa using this
theorem ownV_empty2 (t t':TypeId) (w w1:World) (X:Array Value) (h:w1.heap.size=w.heap.size):((w1.alloc (.cells X t')).alloc (.cells #[] t)).ownsRow w.heap.size t sz (.slice (.some ⟨w.heap.size+1,0,none⟩) 0 0) 0 []:=by
 have hh:=ownV_empty (sz:=sz) t (w1.alloc (.cells X t'));have e:(w1.alloc (.cells X t')).heap.size=w.heap.size+1:=by simp[h]
 rw[e] at hh;exact own_lower hh (Nat.le_succ _)
theorem rdV_far {g b:Nat} (hX:X.length=sz) (hb:w.heap.size=b) (h:(w.alloc (.cells X.toArray t)).grownBy w' (.some g)) (hg:g≠w.heap.size):Rd w' w'.heap.size sz (.some ⟨b,0,none⟩) 1 X:=by
 subst hb;have hr:=rdV_new (sz:=sz) t w X hX;refine⟨hr.len,fun hn=>?_⟩;obtain⟨ad,e,hb,hc⟩:=hr.cells hn;cases e
 refine⟨_,rfl,Nat.lt_of_lt_of_le hb h.size,fun j u hu=>?_⟩;have:=hc j u hu;rw[Addr.add_lit] at this ⊢;rw[World.grownBy.cell_far h ⟨w.heap.size,0+j,none⟩ (by simp) (by intro e;cases e;exact hg rfl)];exact this
theorem run_appV {w0:World} {n0:Nat} (he:El t ts z sz bt) (ty:TypeId) (hown:w0.ownsRow B t sz v n0 V) (hrd:Rd w0 w0.heap.size sz A n X) (hA:A=none->c=0) (h1:∀u∈X,u.oneCell'=true) (hl:n0<=1000000000) (hn:n<=1000000000) (hB:B<=w0.heap.size) :
  ∃v' w',(Builtin.append_ #[ts,ts] ty #[v,.slice A n c]).run Tryz.prog w0=.ok v' w'/\w'.ownsRow B t sz v' (n0+n) (V++X)/\Below B w0 w'/\w0.grownBy w' v.ownBlock:=by
 obtain⟨i0,hi,hz0,hz1,hz2⟩:=info_parts he.info;have hs:=he.small;cases A with
 |none =>
  have hn0:n=0:=by
   rcases Nat.eq_zero_or_pos n with h0|h0
   ·exact h0
   ·obtain⟨ad,e,_⟩:=hrd.cells (by omega)
    cases e
  have hc0:=hA rfl;subst hn0 hc0;have hX:X=[]:=List.eq_nil_of_length_eq_zero (by rw[hrd.len];simp);subst hX;exact⟨v,w0,run_append_owned_none (P:=Tryz.prog) (w:=w0) B ts ty t i0 sz he.sl hi v n0 V hown,by rw[List.append_nil];exact hown,Below.refl _ _,⟨rfl,rfl,rfl,Nat.le_refl _,fun _ _ _=>rfl⟩⟩
 |some ad =>
  obtain⟨v',w',hr,h2,h3,-,-⟩:=run_append_own_at (P:=Tryz.prog) w0 B ts ty t i0 z sz bt he.sl hi hz0 hz1 hz2 he.zc he.pos v n0 V hown
   ad n c X hrd.len (by
    intro j u hu;have hj:=(List.getElem?_eq_some_iff.1 hu).1;rw[hrd.len] at hj;have hn0:0<n:=by
     rcases Nat.eq_zero_or_pos n with h0|h0
     ·subst h0;simp at hj
     ·exact h0
    obtain⟨ad',e,_,hc⟩:=hrd.cells hn0;cases e
    exact hc j u hu) h1 (by simp only[maxLen];omega) (Nat.le_trans (Nat.mul_le_mul_left _ hs) (by omega)) hB
  have hlt:=World.ownsRow.lt hown;exact⟨v',w',hr,h2,((Below.refl _ _).grown h3 hB (fun k hk=>(hlt k hk).1)),h3⟩
end
section
variable {ops:Array Oper} {rest:List Oper} {o:Oper} {a:Act} {K:Act->World->Prop} {Q:Exit->Act->World->Prop} {E:Prop}
theorem step_appV {t ts:TypeId} {z:Value} {sz bt:Nat} (he:El t ts z sz bt) (s x:Operand) {w0:World} {B n0:Nat} {v:Value} {V X:List Value} {A:Option Addr} {n c:Nat}
  (hgd:o.guard=none) (ho:o.op=.call { callee:=.builtin .append,args:=#[s,x],argTypes:=#[ts,ts] })
  (hown:w0.ownsRow B t sz v n0 V) (hrd:Rd w0 w0.heap.size sz A n X) (hA:A=none->c=0) (h1:∀u∈X,u.oneCell'=true) (hl:n0<=1000000000) (hn:n<=1000000000) (hB:B<=w0.heap.size) (hs:a.eval s=v) (hx:a.eval x=.slice A n c)
  (h:∀v' w',w'.ownsRow B t sz v' (n0+n) (V++X)->Below B w0 w'->w0.grownBy w' v.ownBlock->K (a.put o.dst v') w') :
  if Region.wanted o (yielded ops a.tmps)=true then Oper.wp Tryz.prog o a w0 K Q else E:=by
 have hw:Region.wanted o (yielded ops a.tmps)=true:=by simp[Region.wanted,hgd]
 rw[if_pos hw];obtain⟨v',w',hr,h3,h4,h5⟩:=run_appV he o.type hown hrd hA h1 hl hn hB;unfold Oper.wp execOp;simp only[ho,resolve,invoke,builtin,Sem.run_bind,Sem.run_pure,Result.andThen_ok,List.map_toArray,List.map_cons,List.map_nil,hs,hx,hr];exact h v' w' h3 h4 h5
end
end Rf
end Go.Proofs.YtjligbmickfbdaaGreat
namespace Go.Proofs.YtjligbmickfbdaaGreat
namespace Ln
open St
abbrev ThR:=Int×List Int×Bool
def goR (x y:ThR):Bool:=decide (y.1<x.1)||(decide (y.1=x.1)&&(y.2.2|| !x.2.2))
def putR (x:ThR):List ThR->List ThR
 | []=>[x]
 |y::r=>if goR x y=true then y::putR x r else x::y::r
def pairR:List ThR->List ThR
 |x::y::r=>(x.1+y.1,x.2.1++y.2.1,false)::pairR r
 |_=>[]
def putsR (xs:List ThR) (row:List ThR):List ThR:=xs.foldl (fun o x=>putR x o) row
def nextR (row leaves:List ThR):List ThR:=putsR leaves (putsR (pairR row) [])
theorem length_putR (x:ThR):∀r,(putR x r).length=r.length+1
 | []=>rfl
 |y::r=>by
  rw[putR];split
  ·rw[List.length_cons,length_putR x r,List.length_cons]
  ·simp
def smL (F:List Thing):Nat->Int->List Int
 |0,k=>[k]
 |i+1,k=>if 0<=k then[k] else(((rowsL F i).drop (2*(-1-k).toNat)).take 2).flatMap fun x=>smL F i x.2
def toR (F:List Thing) (i:Nat) (x:Thing):ThR:=(x.1,smL F i x.2,decide (0<=x.2))
theorem smL_leaf (F:List Thing):∀(i:Nat) {k:Int},0<=k->smL F i k=[k]
 |0,_,_=>rfl
 |i+1,_,h=>if_pos h
theorem toR_leaf (F:List Thing) (i:Nat) {x:Thing} (h:0<=x.2):toR F i x=(x.1,[x.2],true):=by
 unfold toR;rw[smL_leaf F i h,decide_eq_true h]
theorem pairR_at (F:List Thing) (i:Nat):∀(n:Nat) (l:List Thing),(rowsL F i).drop (2*n)=l->pairR (l.map (toR F i))=(packs n l).map (toR F (i+1))
 |n,[],_=>by simp[pairR,packs]
 |n,[x],_=>by simp[pairR,packs]
 |n,x::y::r,h=>by
  have h2:(rowsL F i).drop (2*(n+1))=r:=by
   rw[show 2*(n+1)=2*n+2 by omega,<-List.drop_drop,h];rfl
  rw[List.map_cons,List.map_cons,pairR,packs,List.map_cons,pairR_at F i (n+1) r h2];congr 1;unfold toR;dsimp only;have hn: ¬ (0:Int)<= -1-(n:Int):=by omega
  rw[smL,if_neg hn,decide_eq_false hn,show(-1-(-1-(n:Int))).toNat=n by omega,h];simp
theorem putR_end (x:ThR) (hx:x.2.2=false):∀r:List ThR,(∀y∈r,y.1<=x.1)->putR x r=r++[x]
 | [],_=>rfl
 |y::r,h=>by
  have h1:=h y (List.mem_cons_self ..);have hg:goR x y=true:=by
   unfold goR;rw[hx];simp only[Bool.not_false,Bool.or_true,Bool.and_true,Bool.or_eq_true,decide_eq_true_eq];omega
  rw[putR,if_pos hg,putR_end x hx r fun z hz=>h z (List.mem_cons_of_mem _ hz)];rfl
theorem putsR_packs:∀(xs r:List ThR),(∀x∈xs,x.2.2=false)->(r++xs).Pairwise (fun a b=>a.1<=b.1)->putsR xs r=r++xs
 | [],r,_,_=>by simp[putsR]
 |x::xs,r,h,hp=>by
  unfold putsR;rw[List.foldl_cons,putR_end x (h x (List.mem_cons_self ..)) r fun y hy=>(List.pairwise_append.1 hp).2.2 y hy x (List.mem_cons_self ..)];have:=putsR_packs xs (r++[x]) (fun z hz=>h z (List.mem_cons_of_mem _ hz)) (by rw[List.append_assoc];exact hp);unfold putsR at this;rw[this,List.append_assoc];rfl
theorem putR_leaf (F:List Thing) (i:Nat) (l:Thing) (hl:0<=l.2):∀(n:Nat) (L P:List Thing),L.length+P.length<=n->(∀x∈L,x.1<=l.1/\0<=x.2)->(∀x∈P,x.2<0) ->
  putR (toR F i l) ((mrg wt L P).map (toR F i))=(mrg wt (L++[l]) P).map (toR F i)
 |n,[],[],_,_,_=>by rw[mrg_nil_left,List.nil_append,mrg_nil_right];rfl
 |0,[],y::P,hn,_,_=>by simp at hn
 |0,x::L,P,hn,_,_=>by simp at hn
 |n+1,[],y::P,hn,hL,hP=>by
  have hy:=hP y (List.mem_cons_self ..);rw[mrg_nil_left,List.nil_append];by_cases h:wt y<wt l
  ·rw[mrg_lt wt h,List.map_cons,List.map_cons,putR,if_pos]
   ·have:=putR_leaf F i l hl n [] P (by simp at hn ⊢;omega) hL fun z hz=>hP z (List.mem_cons_of_mem _ hz)
    rw[mrg_nil_left,List.nil_append] at this;rw[this]
   ·unfold goR toR
    simp only[Bool.or_eq_true,decide_eq_true_eq];exact .inl h
  ·rw[mrg_ge wt h,mrg_nil_left,List.map_cons,List.map_cons,putR,if_neg]
   ·rfl
   ·unfold goR toR
    dsimp only;unfold wt at h;rw[decide_eq_true hl,decide_eq_false (show ¬ 0<=y.2 by omega),decide_eq_false h];simp
 |n+1,x::L,P,hn,hL,hP=>by
  have hx:=hL x (List.mem_cons_self ..);have hgx:goR (toR F i l) (toR F i x)=true:=by
   unfold goR toR;dsimp only;rw[decide_eq_true hx.2];simp only[Bool.true_or,Bool.and_true,Bool.or_eq_true,decide_eq_true_eq];omega
  rcases P with _|⟨y,P⟩
  ·have:=putR_leaf F i l hl n L [] (by simp at hn ⊢;omega) (fun z hz=>hL z (List.mem_cons_of_mem _ hz)) hP
   rw[mrg_nil_right,mrg_nil_right] at *
   rw[List.cons_append,List.map_cons,List.map_cons,putR,if_pos hgx,this]
  ·by_cases h:wt y<wt x
   ·rw[List.cons_append,mrg_lt wt h,mrg_lt wt h,List.map_cons,List.map_cons,putR,if_pos]
    ·have:=putR_leaf F i l hl n (x::L) P (by simp at hn ⊢;omega) hL fun z hz=>hP z (List.mem_cons_of_mem _ hz)
     rw[this,List.cons_append]
    ·unfold goR toR
     simp only[Bool.or_eq_true,decide_eq_true_eq];unfold wt at h;exact .inl (by omega)
   ·rw[List.cons_append,mrg_ge wt h,mrg_ge wt h,List.map_cons,List.map_cons,putR,if_pos hgx,putR_leaf F i l hl n L (y::P) (by simp at hn ⊢;omega) (fun z hz=>hL z (List.mem_cons_of_mem _ hz)) hP]
theorem putsR_leaves (F:List Thing) (i:Nat) (P:List Thing) (hP:∀x∈P,x.2<0):∀(xs L:List Thing),(∀x∈L++xs,0<=x.2)->Srt wt (L++xs)->putsR (xs.map (toR F i)) ((mrg wt L P).map (toR F i))=(mrg wt (L++xs) P).map (toR F i)
 | [],L,_,_=>by simp[putsR]
 |x::xs,L,h,hs=>by
  have hx:=h x (by simp);unfold putsR;rw[List.map_cons,List.foldl_cons,putR_leaf F i x hx _ L P (Nat.le_refl _) (fun z hz=>⟨(List.pairwise_append.1 hs).2.2 z hz x (List.mem_cons_self ..),h z (List.mem_append_left _ hz)⟩) hP];have:=putsR_leaves F i P hP xs (L++[x]) (by rw[List.append_assoc];exact h) (by rw[List.append_assoc];exact hs);unfold putsR at this;rw[this,List.append_assoc];rfl
theorem nextR_eq (F:List Thing) (i:Nat) (hF:∀x∈F,0<=x.2) (hs:Srt wt F) (hr:Srt wt (rowsL F i)):nextR ((rowsL F i).map (toR F i)) (F.map (toR F (i+1)))=(rowsL F (i+1)).map (toR F (i+1)):=by
 unfold nextR;rw[pairR_at F i 0 _ (by simp)];have h1:=putsR_packs ((packs 0 (rowsL F i)).map (toR F (i+1))) [] (fun x hx=>by
  obtain⟨y,hy,rfl⟩:=List.mem_map.1 hx;exact decide_eq_false (by have:=packs_neg 0 _ y hy;omega)) (by
  rw[List.nil_append,List.pairwise_map];exact packs_srt 0 _ hr)
 rw[h1,List.nil_append];have h2:=putsR_leaves F (i+1) (packs 0 (rowsL F i)) (packs_neg 0 _) F [] (by simpa using hF) (by simpa using hs);rw[mrg_nil_left,List.nil_append] at h2;rw[h2];rfl
theorem putR_first (x:Thing) (hx:0<=x.2):∀L:List Thing,(∀y∈L,0<=y.2)->putR (toR [] 0 x) (L.map (toR [] 0))=(mrg wt L [x]).map (toR [] 0)
 | [],_=>by rw[mrg_nil_left];rfl
 |y::L,h=>by
  have hy:=h y (List.mem_cons_self ..);by_cases hw:wt x<wt y
  ·rw[mrg_lt wt hw,mrg_nil_right,List.map_cons,putR,if_neg]
   ·rfl
   ·unfold goR toR
    unfold wt at hw;simp only[Bool.or_eq_true,Bool.and_eq_true,decide_eq_true_eq];omega
  ·rw[mrg_ge wt hw,List.map_cons,putR,if_pos,putR_first x hx L fun z hz=>h z (List.mem_cons_of_mem _ hz)]
   ·rfl
   ·unfold goR toR
    unfold wt at hw;simp only[Bool.or_eq_true,Bool.and_eq_true,decide_eq_true_eq];omega
theorem toR0 (F G:List Thing):toR F 0=toR G 0:=rfl
theorem putsR_first:∀(xs L:List Thing),(∀x∈L++xs,0<=x.2)->putsR (xs.map (toR [] 0)) ((stab wt L).map (toR [] 0))=(stab wt (L++xs)).map (toR [] 0)
 | [],L,_=>by simp[putsR]
 |x::xs,L,h=>by
  have hx:=h x (by simp);unfold putsR;rw[List.map_cons,List.foldl_cons,putR_first x hx _ fun z hz=>h z (List.mem_append_left _ ((stab_perm wt L).mem_iff.1 hz)),<-stab_one wt x,mrg_stab];have:=putsR_first xs (L++[x]) (by rw[List.append_assoc];exact h);unfold putsR at this;rw[this,List.append_assoc];rfl
def cntS (o:List Int) (xs:List Int):List Int:=xs.foldl (fun o s=>inc o s.toNat) o
theorem inc_comm (o:List Int) (a b:Nat):inc (inc o a) b=inc (inc o b) a:=by
 unfold inc;by_cases h:a=b
 ·subst h;rfl
 ·rw[List.getD_eq_getElem?_getD,List.getD_eq_getElem?_getD,List.getD_eq_getElem?_getD,List.getD_eq_getElem?_getD,List.getElem?_set_ne h,List.getElem?_set_ne (Ne.symm h),List.set_comm _ _ h]
theorem cntS_perm {xs ys:List Int} (h:xs.Perm ys):∀o,cntS o xs=cntS o ys:=by
 induction h with
 |nil=>intro o;rfl
 |cons x _ ih=>intro o;exact ih _
 |swap x y l=>intro o;show cntS (inc (inc o y.toNat) x.toNat) l=cntS (inc (inc o x.toNat) y.toNat) l;rw[inc_comm]
 |trans _ _ ih1 ih2=>intro o;rw[ih1,ih2]
theorem cntS_append (o xs ys:List Int):cntS o (xs++ys)=cntS (cntS o xs) ys:=List.foldl_append ..
theorem incs_cntS:∀(xs:List Thing) (o:List Int),incs o xs=cntS o ((xs.filter fun x=>decide (0<=x.2)).map (·.2))
 | [],_=>rfl
 |x::r,o=>by
  by_cases h:x.2<0
  ·rw[List.filter_cons_of_neg (by simp;omega),<-incs_cntS r]
   unfold incs;rw[List.foldl_cons,if_pos h]
  ·rw[List.filter_cons_of_pos (by simp;omega),List.map_cons]
   show incs o (x::r)=cntS (inc o x.2.toNat) _
   rw[<-incs_cntS r];unfold incs;rw[List.foldl_cons,if_neg h]
def flatR (F:List Thing) (i m:Nat):List Int:=((rowsL F i).take m).flatMap fun x=>smL F i x.2
theorem packs_take:∀(q n:Nat) (l:List Thing),(packs n l).take q=packs n (l.take (2*q))
 |0,n,l=>by simp[packs]
 |q+1,n,[]=>by simp[packs]
 |q+1,n,[x]=>by simp[packs,show 2*(q+1)=(2*q+1)+1 by omega]
 |q+1,n,x::y::r=>by
  rw[packs,List.take_succ_cons,packs_take q (n+1) r,show 2*(q+1)=(2*q+1)+1 by omega,List.take_succ_cons,List.take_succ_cons,packs]
theorem flat_packs (F:List Thing) (i:Nat):∀(n:Nat) (l:List Thing),(∃t,(rowsL F i).drop (2*n)=l++t)->l.length%2=0->(packs n l).flatMap (fun x=>smL F (i+1) x.2)=l.flatMap fun x=>smL F i x.2
 |n,[],_,_=>by simp[packs]
 |n,[x],_,h=>by simp at h
 |n,x::y::r,⟨t,h⟩,he=>by
  have h2:(rowsL F i).drop (2*(n+1))=r++t:=by
   rw[show 2*(n+1)=2*n+2 by omega,<-List.drop_drop,h];rfl
  rw[packs,List.flatMap_cons,flat_packs F i (n+1) r ⟨t,h2⟩ (by simp at he;omega)];dsimp only;have hn: ¬ (0:Int)<= -1-(n:Int):=by omega
  rw[smL,if_neg hn,show(-1-(-1-(n:Int))).toNat=n by omega,h];simp
theorem mrg_neg (F:List Thing) (hF:∀x∈F,0<=x.2):∀(n:Nat) (L P:List Thing),L.length+P.length<=n->(∀x∈L,0<=x.2)->(∀x∈P,x.2<0)->(mrg wt L P).filter (fun x=>decide (x.2<0))=P
 |n,[],P,_,_,hP=>by
  rw[mrg_nil_left,List.filter_eq_self];intro x hx;simpa using hP x hx
 |n,x::L,[],_,hL,_=>by
  rw[mrg_nil_right,List.filter_eq_nil_iff];intro y hy;have:=hL y hy;simp;omega
 |n,x::L,y::P,hn,hL,hP=>by
  have hx:=hL x (List.mem_cons_self ..);have hy:=hP y (List.mem_cons_self ..);by_cases h:wt y<wt x
  ·rw[mrg_lt wt h,List.filter_cons_of_pos (by simpa using hy),mrg_neg F hF (n-1) (x::L) P (by simp at hn ⊢;omega) hL fun z hz=>hP z (List.mem_cons_of_mem _ hz)]
  ·rw[mrg_ge wt h,List.filter_cons_of_neg (by simp;omega),mrg_neg F hF (n-1) L (y::P) (by simp at hn ⊢;omega) (fun z hz=>hL z (List.mem_cons_of_mem _ hz)) hP]
theorem flat_split (G:Thing->List Int):∀l:List Thing,(l.flatMap G).Perm ((l.filter fun x=>decide (0<=x.2)).flatMap G++(l.filter fun x=>decide (x.2<0)).flatMap G)
 | []=>by simp
 |x::l=>by
  have ih:=flat_split G l;by_cases h:x.2<0
  ·rw[List.filter_cons_of_neg (by simp;omega),List.filter_cons_of_pos (by simpa using h),List.flatMap_cons,List.flatMap_cons]
   exact(List.Perm.append_left _ ih).trans (by rw[<-List.append_assoc,<-List.append_assoc];exact List.Perm.append_right _ List.perm_append_comm)
  ·rw[List.filter_cons_of_pos (by simp;omega),List.filter_cons_of_neg (by simpa using h),List.flatMap_cons,List.flatMap_cons,List.append_assoc]
   exact List.Perm.append_left _ ih
theorem leaf_flat (F:List Thing) (i:Nat):∀l:List Thing,(l.filter fun x=>decide (0<=x.2)).flatMap (fun x=>smL F i x.2)=(l.filter fun x=>decide (0<=x.2)).map (·.2)
 | []=>rfl
 |x::l=>by
  by_cases h:0<=x.2
  ·rw[List.filter_cons_of_pos (by simpa using h),List.flatMap_cons,List.map_cons,smL_leaf F i h,leaf_flat F i l];rfl
  ·rw[List.filter_cons_of_neg (by simpa using h),leaf_flat F i l]
theorem filter_take {α:Type} (p:α->Bool):∀(l:List α) (m:Nat),(l.take m).filter p=(l.filter p).take ((l.take m).filter p).length
 | [],m=>by simp
 |x::l,0=>by simp
 |x::l,m+1=>by
  rw[List.take_succ_cons];by_cases h:p x=true
  ·rw[List.filter_cons_of_pos h,List.filter_cons_of_pos h,List.length_cons,List.take_succ_cons,<-filter_take p l m]
  ·rw[List.filter_cons_of_neg h,List.filter_cons_of_neg h];exact filter_take p l m
theorem taken_eq (F:List Thing) (hF:∀x∈F,0<=x.2):∀(i m:Nat) (o:List Int),cntS o (flatR F i m)=takenP F i m o
 |0,m,o=>by
  unfold flatR;rw[takenP,incs_cntS];congr 1;have hall:∀x∈(rowsL F 0).take m,0<=x.2:=fun x hx=>hF x (List.mem_of_mem_take hx)
  rw[List.filter_eq_self.2 fun x hx=>by simpa using hall x hx];generalize (rowsL F 0).take m=l
  induction l with
  |nil=>rfl
  |cons x l ih=>rw[List.flatMap_cons,List.map_cons,ih];rfl
 |i+1,m,o=>by
  rw[takenP,<-taken_eq F hF i,incs_cntS,<-cntS_append];refine cntS_perm ?_ o;unfold flatR;refine(flat_split _ _).trans ?_;rw[leaf_flat];refine List.Perm.append_left _ (List.Perm.of_eq ?_);have hq:=mrg_neg F hF _ F (packs 0 (rowsL F i)) (Nat.le_refl _) hF (packs_neg 0 _);have e1:((rowsL F (i+1)).take m).filter (fun x=>decide (x.2<0))=(packs 0 (rowsL F i)).take (npk ((rowsL F (i+1)).take m)):=by
   rw[filter_take];show((mrg wt F (packs 0 (rowsL F i))).filter _).take _=_
   rw[hq];rfl
  have hnp:npk ((rowsL F (i+1)).take m)<=(packs 0 (rowsL F i)).length:=by
   have:=congrArg List.length e1;unfold npk at this ⊢;rw[List.length_take] at this;omega
  rw[e1,packs_take];refine flat_packs F i 0 _ ⟨(rowsL F i).drop (2*npk ((rowsL F (i+1)).take m)),by simp⟩ ?_;rw[List.length_take];rw[length_packs] at hnp;omega
end Ln
end Go.Proofs.YtjligbmickfbdaaGreat
namespace Go.Proofs.YtjligbmickfbdaaGreat
namespace Rf
open Go.RowKit Ln
abbrev RT:=Int×(Option Addr×Nat×Nat)×Bool
def svT (x:RT):Value:=.slice x.2.1.1 x.2.1.2.1 x.2.1.2.2
def cT (x:RT):List Value:=[.int .i64 x.1,.slice x.2.1.1 x.2.1.2.1 x.2.1.2.2,.bool x.2.2]
def fT (l:List RT):List Value:=l.flatMap cT
theorem fT_app (a b:List RT):fT (a++b)=fT a++fT b:=List.flatMap_append ..
theorem fT_one (l:List RT):∀u∈fT l,u.oneCell'=true:=by
 intro u hu;obtain⟨y,_,hy⟩:=List.mem_flatMap.1 hu;simp[cT] at hy
 rcases hy with rfl|rfl|rfl<;>rfl
theorem fT_len (l:List RT):(fT l).length=l.length*3:=by
 induction l with
 |nil=>rfl
 |cons x l ih =>
  have e:fT (x::l)=.int .i64 x.1:: .slice x.2.1.1 x.2.1.2.1 x.2.1.2.2:: .bool x.2.2::fT l:=rfl;rw[e,List.length_cons,List.length_cons,List.length_cons,List.length_cons,ih];omega
theorem fT_drop (l:List RT):∀k,(fT l).drop (k*3)=fT (l.drop k):=by
 induction l with
 |nil=>intro k;simp[fT]
 |cons x l ih =>
  intro k;have e:fT (x::l)=.int .i64 x.1:: .slice x.2.1.1 x.2.1.2.1 x.2.1.2.2:: .bool x.2.2::fT l:=rfl;rcases k with _|k
  ·rw[Nat.zero_mul];rfl
  ·rw[e,show(k+1)*3=k*3+1+1+1 by omega,List.drop_succ_cons,List.drop_succ_cons,List.drop_succ_cons,ih,List.drop_succ_cons]
theorem fT_take (l:List RT):∀k,(fT l).take (k*3)=fT (l.take k):=by
 induction l with
 |nil=>intro k;simp[fT]
 |cons x l ih =>
  intro k;have e:fT (x::l)=.int .i64 x.1:: .slice x.2.1.1 x.2.1.2.1 x.2.1.2.2:: .bool x.2.2::fT l:=rfl;rcases k with _|k
  ·rw[Nat.zero_mul];rfl
  ·rw[e,show(k+1)*3=k*3+1+1+1 by omega,List.take_succ_cons,List.take_succ_cons,List.take_succ_cons,ih,List.take_succ_cons];rfl
theorem fT_at (l:List RT) (k:Nat) (x:RT) (h:l[k]? =some x):(fT l)[k*3]? =some (.int .i64 x.1)/\(fT l)[k*3+1]? =some (.slice x.2.1.1 x.2.1.2.1 x.2.1.2.2)/\(fT l)[k*3+2]? =some (.bool x.2.2):=by
 have hd:(fT l).drop (k*3)=cT x++fT (l.drop (k+1)):=by
  rw[fT_drop];obtain⟨hk,e⟩:=List.getElem?_eq_some_iff.1 h;rw[List.drop_eq_getElem_cons hk,e];rfl
 refine⟨?_,?_,?_⟩
 ·rw[show k*3=k*3+0 from rfl,<-List.getElem?_drop,hd];rfl
 ·rw[<-List.getElem?_drop,hd];rfl
 ·rw[<-List.getElem?_drop,hd];rfl
theorem thingEl:El 191 188 (.agg #[.int .i64 0,.slice none 0 0,.bool false]) 3 40:=⟨by kernel_rfl,Tryz.underlying188,rfl,by decide,by decide⟩
theorem argT_cell {w w':World} {ad:Addr} {n c k:Nat} {x:RT} {l:List RT} (h:ArgV w 3 (some ad) n c (fT l)) (hb:Below w.heap.size w w') (hk:l[k]? =some x) :
  w'.cell? (ad.add (k*3))=some (.int .i64 x.1)/\w'.cell? ⟨(ad.add (k*3)).block,(ad.add (k*3)).off+1,none⟩=some (.slice x.2.1.1 x.2.1.2.1 x.2.1.2.2)/\w'.cell? ⟨(ad.add (k*3)).block,(ad.add (k*3)).off+2,none⟩=some (.bool x.2.2):=by
 have hn:0<n:=by
  have:=(List.getElem?_eq_some_iff.1 hk).1;have:=h.rd.len;rw[fT_len] at this;omega
 obtain⟨ad',e,_,hc⟩:=(h.rd.ext hb).cells hn;cases e
 obtain⟨h1,h2,h3⟩:=fT_at l k x hk;have c1:=hc _ _ h1;have c2:=hc _ _ h2;have c3:=hc _ _ h3;rw[<-add_add] at c2 c3;exact⟨c1,c2,c3⟩
def goT (x y:RT):Bool:=decide (y.1<x.1)||(decide (y.1=x.1)&&(y.2.2|| !x.2.2))
def putT (x:RT):List RT->List RT
 | []=>[x]
 |y::r=>if goT x y=true then y::putT x r else x::y::r
theorem putT_at (x:RT):∀(l:List RT) (k:Nat),k<=l.length->(∀y∈l.take k,goT x y=true)->(∀y,l[k]? =some y->goT x y=false)->putT x l=l.take k++[x]++l.drop k
 | [],0,_,_,_=>rfl
 | [],k+1,h,_,_=>by simp at h
 |y::l,0,_,_,h=>by
  have:=h y rfl;rw[putT,if_neg (by rw[this];simp)];rfl
 |y::l,k+1,hk,h,h'=>by
  rw[putT,if_pos (h y (by simp)),putT_at x l k (by simpa using hk) (fun z hz=>h z (by simp[hz])) (fun z hz=>h' z (by simpa using hz))];rfl
end Rf
end Go.Proofs.YtjligbmickfbdaaGreat
