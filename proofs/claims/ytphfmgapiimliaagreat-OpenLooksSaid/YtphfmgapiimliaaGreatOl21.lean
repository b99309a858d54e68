/- varint.Size, record.Size. buff.Raw, buff.Next. varveref15.Put, Size; varveref29.Raw; varveref21.put, Put. -/
import Derived.Test.YtphfmgapiimliaaGreatOl05
import Derived.Test.YtphfmgapiimliaaGreatOl20
import Derived.Test.YtphfmgapiimliaaGreatOl17
import Derived.Deep.LoopGhost
import Derived.Test.YtphfmgapiimliaaGreatOl06
import Derived.Test.YtphfmgapiimliaaGreatOl14
namespace Go.Proofs.YtphfmgapiimliaaGreat
namespace Rd
open Go.RowKit Vi
def lenR (m:Nat):Nat:=if m=0 then 0 else(putV m).length
theorem lenR_zero:lenR 0=0:=rfl
theorem lenR_step (n:Nat):(putV n).length=1+lenR (n/128):=by
 unfold lenR;by_cases h:n<128
 ·rw[putV_small h,if_pos (by omega)];rfl
 ·rw[putV_step h,if_neg (by omega),List.length_cons];omega
theorem lenR_pos (n:Nat) (h:0<n):lenR n=1+lenR (n/128):=by rw[<-lenR_step];exact if_neg (by omega)
set_option maxHeartbeats 1600000 in
theorem vsize_any (N:Nat) (w:World) (hN:N<9223372036854775808) :
  Calls Tryz.prog 150 #[.int .i64 (N:Int)] w fun e w'=>e=.returned (.int .i64 ((putV N).length:Int))/\w=w':=by
 have hput:(putV N).length<=9:=length_putV_le N 8 (by omega);have h0:=lenR_step N;have H0:=Lib.hid h0;clear h0
 go_enter Tryz.func150, Tryz.ntmps150
 go_wp2_with fail
 go_loopw [0,3] (fun m k wr=>∃(mk kk:Nat),m=.int .i64 mk/\k=.int .i64 kk/\mk<9223372036854775808/\kk<=9/\Hid (kk+lenR mk=(putV N).length)/\wr=w) (fun m _ _=>(intOf m).toNat)
 case atStart=>exact⟨N/128,1,by go_num,by go_num,by omega,by omega,H0.out.symm,rfl⟩
 case round =>
  obtain⟨mk,kk,rfl,rfl,hm,hk,heq,rfl⟩:=hrel;by_cases hlt:0<mk
  ·have hs:=lenR_pos mk hlt
   have hq:=heq.out;have hkk:kk+1<=9:=by omega
   have hq2:kk+1+lenR (mk/128)=(putV N).length:=by omega
   have HQ:=Lib.hid hq2;clear hs hq hq2;go_wp2_with fail
   exact⟨⟨mk/128,kk+1,by go_num,by go_num,by omega,hkk,HQ.out,trivial⟩,by simp[intOf];omega⟩
  ·obtain rfl:mk=0:=by omega
   have hq:=heq.out;rw[lenR_zero,Nat.add_zero] at hq;clear heq;subst hq;go_wp2_with fail
   go_ret
   exact⟨rfl,rfl⟩
set_option maxHeartbeats 6400000 in
set_option maxRecDepth 100000 in
theorem rsize_any (q t:Nat) (d:ByteArray) (w:World) (h:ok1 ((q:Int),(t:Int),d)=true) :
  Calls Tryz.prog 106 #[.agg #[.int .i64 (q:Int),.int .i64 (t:Int),.string d]] w fun e w'=>e=.returned (.int .i64 ((recB ((q:Int),(t:Int),d)).length:Int))/\Below w.heap.size w w':=by
 have mixed:Tryz.prog.follows .mixedOrders=true:=by kernel_rfl
 have hc:=check_any q t d;simp only[cE_ok h] at hc;have HC:=Lib.hid hc;rw[ok1_iff] at h;simp only at h;have hl:(recB ((q:Int),(t:Int),d)).length=(putV q).length+(putV t).length+(putV d.size).length+d.size:=by
  have:d.data.toList.length=d.size:=rfl;unfold recB;simp only[List.length_append,Int.toNat_natCast,this];omega
 have HL:=Lib.hid hl;have l1:(putV q).length<=9:=length_putV_le q 8 (by omega);have l2:(putV t).length<=9:=length_putV_le t 8 (by omega);have l3:(putV d.size).length<=9:=length_putV_le d.size 8 (by omega);have HS1:=Lib.hid (fun w=>vsize_any q w (by omega));have HS2:=Lib.hid (fun w=>vsize_any t w (by omega));have HS3:=Lib.hid (fun w=>vsize_any d.size w (by omega));generalize (putV q).length=a at *
 generalize (putV t).length=b at *
 generalize (putV d.size).length=c at *
 have hq1:((q:Int)==0)=false:=by rw[beq_eq_false_iff_ne];omega
 have hsz:d.size<=2000:=h.2.2.2.2;clear hc hl h
 go_enter Tryz.func106, Tryz.ntmps106
 go_wp2_with fail
 refine(HC.out _).mono ?_;rintro e1 w1 ⟨rfl,hb1⟩;have cc:∀j,w1.cell? ⟨w.heap.size,j,none⟩=(w.alloc (.cells #[.int .i64 (q:Int),.int .i64 (t:Int),.string d] 33)).cell? ⟨w.heap.size,j,none⟩:=fun j=>hb1.cell (p:=⟨w.heap.size,j,none⟩) (by simp)
 have c0:w1.cell? ⟨w.heap.size,0,none⟩=some (.int .i64 (q:Int)):=by rw[cc,World.cell?_alloc_new];rfl
 have c1:w1.cell? ⟨w.heap.size,1,none⟩=some (.int .i64 (t:Int)):=by rw[cc,World.cell?_alloc_new];rfl
 have c2:w1.cell? ⟨w.heap.size,2,none⟩=some (.string d):=by rw[cc,World.cell?_alloc_new];rfl
 have HB:=Lib.hid (ext_trans (ext_alloc w _) hb1);clear hb1 cc HC;go_wp2_with fail
 go_quiet (first|(go_at_call_of 150 (q:Int);exact(HS1.out _).mono fun _ _ h=>⟨h.1,_,h.2.symm⟩)|(go_at_call_of 150 (t:Int);exact(HS2.out _).mono fun _ _ h=>⟨h.1,_,h.2.symm⟩)|(go_at_call_of 150 (d.size:Int);exact(HS3.out _).mono fun _ _ h=>⟨h.1,_,h.2.symm⟩))
 go_wp2_with fail
 go_ret
 refine⟨ret_int (k:=.i64) (b:=_) ?_,below_drewN HB.out _⟩;rw[HL.out];omega
end Rd
end Go.Proofs.YtphfmgapiimliaaGreat
namespace Go.Proofs.YtphfmgapiimliaaGreat
namespace Op
open Go.RowKit Hd Rd Vi
theorem rawR_take {l:List Rc} {k:Nat} {r:Rc} (h:l[k]? =some r):rawR (l.take (k+1))=min (rawR (l.take k)+(recB r).length) 1000000:=by
 unfold rawR;rw[List.take_add_one,h,List.foldl_append];rfl
theorem rawR_le (l:List Rc):rawR l<=1000000:=by
 rcases List.eq_nil_or_concat l with rfl|⟨l',x,rfl⟩
 ·exact Nat.zero_le _
 ·unfold rawR
  rw[List.concat_eq_append,List.foldl_append];exact Nat.min_le_right _ _
theorem recB_le {r:Rc} (h:ok1 r=true):(recB r).length<=3000:=by
 rw[ok1_iff] at h;have l1:(putV r.1.toNat).length<=9:=length_putV_le _ 8 (by omega);have l2:(putV r.2.1.toNat).length<=9:=length_putV_le _ 8 (by omega);have l3:(putV r.2.2.size).length<=9:=length_putV_le _ 8 (by omega);have:r.2.2.data.toList.length=r.2.2.size:=rfl;unfold recB;simp only[List.length_append];omega
theorem row_ok1:∀(l:List Rc) (p:Option Rc),Rd.rowE p l=0-> ∀r∈l,ok1 r=true
 | [],_,_,r,h=>by cases h
 |x::l,p,h,r,hr=>by
  rw[Rd.rowE] at h;have h1:ok1 x=true:=by
   rcases hx:ok1 x with _|_
   ·rw[if_pos hx] at h;cases h
   ·rfl
  rw[if_neg (by rw[h1];simp)] at h;split at h
  ·cases h
  ·rcases List.mem_cons.1 hr with rfl|hr
   ·exact h1
   ·exact row_ok1 l (some x) h r hr
set_option maxHeartbeats 3200000 in
set_option maxRecDepth 100000 in
theorem raw_any (A:Option Addr) (n c:Nat) (l:List Rc) (w:World) (hrd:Rd w w.heap.size 3 A n (flS l)) (hn:n<=1000000) (hok:∀r∈l,ok1 r=true) :
  Calls Tryz.prog 64 #[.slice A n c] w fun e w'=>e=.returned (.int .i64 (rawR l:Int))/\Below w.heap.size w w':=by
 have mixed:Tryz.prog.follows .mixedOrders=true:=by kernel_rfl
 have HLN:=Lib.hid (rdS_len hrd);have HR:=Lib.hid hrd;have HO:=Lib.hid hok;clear hrd hok
 go_enter Tryz.func64, Tryz.ntmps64
 go_wp2_with fail
 go_loopw [3,8] (fun s v wr=>∃k a:Nat,v=.int .i64 (k:Int)/\s=.int .i64 (a:Int)/\k<=n/\a<=1000000/\Hid (rawR (l.take k)=a/\Below w.heap.size w wr)) (fun _ v _=>n-(intOf v).toNat)
 case atStart=>exact⟨0,0,by go_num,by go_num,by omega,by omega,Lib.hid ⟨rfl,Below.refl _ _⟩⟩
 case round =>
  obtain⟨k,a,rfl,rfl,hk,ha,HX⟩:=hrel;by_cases hkn:k<n
  ·obtain⟨ad,m,rfl,hbk,hx,e0,ej⟩:=sl_at (HR.out.below HX.out.2) hkn
   have ho:=HO.out m (List.mem_of_getElem? hx);obtain⟨q,t,d⟩:=m;have c0:wr.cell? (ad.add (k*3))=some (.int .i64 q):=e0;have c1:wr.cell? ⟨(ad.add (k*3)).block,(ad.add (k*3)).off+1,none⟩=some (.int .i64 t):=ej 0 (by decide);have c2:wr.cell? ⟨(ad.add (k*3)).block,(ad.add (k*3)).off+2,none⟩=some (.string d):=ej 1 (by decide);have h3:=(ok1_iff _).1 ho;dsimp only at h3;obtain⟨q',rfl⟩:∃q':Nat,q=q':=⟨q.toNat,by omega⟩
   obtain⟨t',rfl⟩:∃t':Nat,t=t':=⟨t.toNat,by omega⟩
   have HS:=Lib.hid (fun w=>rsize_any q' t' d w ho);have hz:=recB_le ho;have HN:=Lib.hid ((rawR_take hx).trans (by rw[HX.out.1]));generalize (recB ((q':Int),(t':Int),d)).length=z at *
   have HB:=Lib.hid (HX.out.2.trans ((ext_alloc wr (.cells #[.int .i64 (q':Int),.int .i64 (t':Int),.string d] 33)).mono HX.out.2.size));clear e0 ej hx hbk ho h3 HX;go_wp2_with (go_at_call 106;refine(HS.out _).mono ?_;rintro e1 w1 ⟨rfl,hb1⟩;have HB1:=Lib.hid (HB.out.trans (hb1.mono HB.out.size));clear hb1)
   all_goals
    go_roundw
    case rel=>exact⟨k+1,min (a+z) 1000000,by go_num,by go_num,by omega,by omega,Lib.hid ⟨HN.out,HB1.out⟩⟩
    case measure=>simp[intOf];omega
  ·obtain rfl:k=n:=by omega
   have HB:=Lib.hid HX.out.2;have HE:=Lib.hid (show rawR l=a from by rw[<-HX.out.1,List.take_of_length_le (by rw[HLN.out];exact Nat.le_refl _)]);clear HX;go_wp2_with fail
   go_ret
   exact⟨by rw[HE.out];rfl,HB.out⟩
def bnext (f:Int) (l:List Rc):Int:=match l.getLast? with
 |none=>f
 |some r=>r.1+1
set_option maxHeartbeats 3200000 in
set_option maxRecDepth 100000 in
theorem bnext_any (A:Option Addr) (n c:Nat) (f:Int) (l:List Rc) (w:World) (hrd:Rd w w.heap.size 3 A n (flS l)) (hn:n<=1000000) (hok:∀r∈l,ok1 r=true) :
  Calls Tryz.prog 65 #[.slice A n c,.int .i64 f] w fun e w'=>e=.returned (.int .i64 (bnext f l))/\Below w.heap.size w w':=by
 have mixed:Tryz.prog.follows .mixedOrders=true:=by kernel_rfl
 have hln:=rdS_len hrd;unfold bnext;rcases hl:l.getLast? with _|m
 ·have hl0:l=[]:=List.getLast?_eq_none_iff.1 hl
  subst hl0;simp only[List.length_nil] at hln;subst hln;dsimp only;clear hrd hn hok hl
  go_enter Tryz.func65, Tryz.ntmps65
  go_wp2_with fail
  go_ret
  exact⟨rfl,Below.refl _ _⟩
 ·dsimp only
  have hn0:0<n:=by
   rcases l with _|⟨x,l⟩
   ·cases hl
   ·simp at hln;omega
  obtain⟨j,hj⟩:∃j,n=j+1:=⟨n-1,by omega⟩
  obtain⟨ad,x,rfl,hbk,hx,e0,ej⟩:=sl_at (k:=j) hrd (by omega);rw[List.getLast?_eq_getElem?,hln,hj,Nat.add_sub_cancel,hx] at hl;obtain rfl:=Option.some.inj hl;have h3:=(ok1_iff _).1 (hok x (List.mem_of_getElem? hx));obtain⟨q,t,d⟩:=x;dsimp only at h3 ⊢;have c0:w.cell? (ad.add (j*3))=some (.int .i64 q):=e0;have b0:((n:Int)==0)=false:=by rw[beq_eq_false_iff_ne];omega
  have b1:(q==9223372036854775807)=false:=by rw[beq_eq_false_iff_ne];omega
  have b2:IntKind.i64.wrap ((n:Int)-1)=(j:Int):=by rw[IntKind.wrap_i64];omega
  have b3:(j:Int)<(n:Int):=by omega
  have b4:IntKind.i64.wrap (q+1)=q+1:=by rw[IntKind.wrap_i64];omega
  have b5:(0:Int)<=(j:Int):=by omega
  have HJ:=Lib.hid hj;clear hrd e0 ej hok hl hx hj h3 hbk hln
  go_enter Tryz.func65, Tryz.ntmps65
  go_wp2_with fail
  go_ret
  exact⟨rfl,Below.refl _ _⟩
end Op
end Go.Proofs.YtphfmgapiimliaaGreat
namespace Go.Proofs.YtphfmgapiimliaaGreat
namespace Op
open Go.RowKit Hd Rd Vi Dk Rf
def rT (l:List UInt8):ByteArray:=⟨l.toArray⟩
set_option maxHeartbeats 6400000 in
set_option maxRecDepth 100000 in
theorem rrput_any (q t:Nat) (d:ByteArray) (w:World) (h:ok1 ((q:Int),(t:Int),d)=true) :
  Calls Tryz.prog 98 #[.agg #[.int .i64 (q:Int),.int .i64 (t:Int),.string d]] w fun e w'=>e=.returned (.tuple #[.string (rT (recB ((q:Int),(t:Int),d))),.int .i64 0])/\Below w.heap.size w w':=by
 have hc:=refcheck15_any q t d;simp only[cE_ok h] at hc;have HC:=Lib.hid hc;rw[ok1_iff] at h;simp only at h;have l1:(vtxt q).size<=9:=by rw[vtxt_size];exact length_putV_le q 8 (by omega)
 have l2:(vtxt t).size<=9:=by rw[vtxt_size];exact length_putV_le t 8 (by omega)
 have l3:(vtxt d.size).size<=9:=by rw[vtxt_size];exact length_putV_le d.size 8 (by omega)
 have P1:=Lib.hid (fun w=>refput_any (q+1) q w (by omega) (by omega));have P2:=Lib.hid (fun w=>refput_any (t+1) t w (by omega) (by omega));have P3:=Lib.hid (fun w=>refput_any (d.size+1) d.size w (by omega) (by omega));have hsz:d.size<=2000:=h.2.2.2.2;have hcat:vtxt q++vtxt t++vtxt d.size++d=rT (recB ((q:Int),(t:Int),d)):=by
  apply ByteArray.ext
  apply Array.toList_inj.1
  simp[ByteArray.data_append,vtxt,recB,rT]
 have HCAT:=Lib.hid hcat;have f1:(vtxt q).size+(vtxt t).size<=9223372036854775807:=by omega
 have f2:(vtxt q++vtxt t).size+(vtxt d.size).size<=9223372036854775807:=by rw[ByteArray.size_append];omega
 have f3:(vtxt q++vtxt t++vtxt d.size).size+d.size<=9223372036854775807:=by rw[ByteArray.size_append,ByteArray.size_append];omega
 generalize rT (recB ((q:Int),(t:Int),d))=RR at *
 generalize vtxt q=Ta at *
 generalize vtxt t=Tb at *
 generalize vtxt d.size=Tc at *
 obtain⟨w1,hw1⟩:∃w1,w1=w.alloc (.cells #[.int .i64 (q:Int),.int .i64 (t:Int),.string d] 33):=⟨_,rfl⟩
 have hb1:Below w.heap.size w w1:=by rw[hw1];exact ext_alloc w _
 have hz1:w.heap.size<w1.heap.size:=by rw[hw1];simp
 have hx0:w1.cell? ⟨w.heap.size,0,none⟩=some (.int .i64 (q:Int)):=by rw[hw1];exact cell_of_row _ w.heap.size 0 _ _ _ (heap_alloc_new w _)
 have hx1:w1.cell? ⟨w.heap.size,1,none⟩=some (.int .i64 (t:Int)):=by rw[hw1];exact cell_of_row _ w.heap.size 1 _ _ _ (heap_alloc_new w _)
 have hx2:w1.cell? ⟨w.heap.size,2,none⟩=some (.string d):=by rw[hw1];exact cell_of_row _ w.heap.size 2 _ _ _ (heap_alloc_new w _)
 have HCL:Hid (∀wx,Below w1.heap.size w1 wx->wx.cell? ⟨w.heap.size,0,none⟩=some (.int .i64 (q:Int))/\wx.cell? ⟨w.heap.size,1,none⟩=some (.int .i64 (t:Int))/\wx.cell? ⟨w.heap.size,2,none⟩=some (.string d)):=fun wx hb =>
  ⟨(hb.cell (p:=⟨w.heap.size,0,none⟩) hz1).trans hx0,(hb.cell (p:=⟨w.heap.size,1,none⟩) hz1).trans hx1,(hb.cell (p:=⟨w.heap.size,2,none⟩) hz1).trans hx2⟩
 clear hc h hcat hx0 hx1 hx2 hz1
 go_enter Tryz.func98, Tryz.ntmps98
 go_wp2_with fail
 rw[<-hw1];refine(HC.out w1).mono ?_;rintro e2 w2 ⟨rfl,hb2⟩;obtain⟨c0,c1,c2⟩:=HCL.out w2 hb2;clear hw1;go_wp2_with fail
 refine(P1.out w2).mono ?_;rintro e3 w3 ⟨rfl,hb3⟩;have hb13:=ext_trans hb2 hb3;clear c0 c1 c2;obtain⟨c0,c1,c2⟩:=HCL.out w3 hb13;go_wp2_with fail
 refine(P2.out w3).mono ?_;rintro e4 w4 ⟨rfl,hb4⟩;have hb14:=ext_trans hb13 hb4;clear c0 c1 c2;obtain⟨c0,c1,c2⟩:=HCL.out w4 hb14;go_wp2_with fail
 refine(P3.out w4).mono ?_;rintro e5 w5 ⟨rfl,hb5⟩;have hb15:=ext_trans hb14 hb5;clear c0 c1 c2;obtain⟨c0,c1,c2⟩:=HCL.out w5 hb15;go_wp2_with fail
 go_ret2
 exact⟨by rw[<-HCAT.out];rfl,ext_trans hb1 hb15⟩
set_option maxHeartbeats 3200000 in
set_option maxRecDepth 100000 in
theorem rrsize_any (q t:Nat) (d:ByteArray) (w:World) (h:ok1 ((q:Int),(t:Int),d)=true) :
  Calls Tryz.prog 60 #[.agg #[.int .i64 (q:Int),.int .i64 (t:Int),.string d]] w fun e w'=>e=.returned (.int .i64 ((recB ((q:Int),(t:Int),d)).length:Int))/\Below w.heap.size w w':=by
 have HP:=Lib.hid (fun w=>rrput_any q t d w h);have HZ:=Lib.hid (show((rT (recB ((q:Int),(t:Int),d))).size:Int)=((recB ((q:Int),(t:Int),d)).length:Int) from rfl);generalize recB ((q:Int),(t:Int),d)=B at *
 generalize rT B=R at *
 have HB:=Lib.hid (ext_alloc w (.cells #[.int .i64 (q:Int),.int .i64 (t:Int),.string d] 33));clear h
 go_enter Tryz.func60, Tryz.ntmps60
 go_wp2_with (go_at_call 98;refine(HP.out _).mono ?_;rintro e1 w1 ⟨rfl,hb1⟩;have HB:=Lib.hid (HB.out.trans (hb1.mono HB.out.size));clear hb1)
 go_ret
 exact⟨by rw[<-HZ.out];rfl,HB.out⟩
theorem rawR_mono:∀(l:List Rc) (a:Nat),1000000<=a->l.foldl (fun n r=>min (n+(recB r).length) 1000000) a=if l=[] then a else 1000000
 | [],a,_=>rfl
 |x::l,a,h=>by
  rw[List.foldl_cons,rawR_mono l _ (by omega),if_neg (show ¬ x::l=[] from List.cons_ne_nil x l)];split
  ·omega
  ·rfl
theorem rawR_big {l:List Rc} {k:Nat} (h:1000000<=rawR (l.take k)):rawR l=1000000:=by
 have h1:=rawR_le (l.take k);have e:rawR l=(l.drop k).foldl (fun n r=>min (n+(recB r).length) 1000000) (rawR (l.take k)):=by
  conv=>lhs;rw[<-List.take_append_drop k l]
  unfold rawR;rw[List.foldl_append]
 rw[e,rawR_mono _ _ h];split<;>omega
set_option maxHeartbeats 3200000 in
set_option maxRecDepth 100000 in
theorem rraw_any (A:Option Addr) (n c:Nat) (l:List Rc) (w:World) (hrd:Rd w w.heap.size 3 A n (flS l)) (hn:n<=1000000) (hok:∀r∈l,ok1 r=true) :
  Calls Tryz.prog 29 #[.slice A n c] w fun e w'=>e=.returned (.int .i64 (rawR l:Int))/\Below w.heap.size w w':=by
 have mixed:Tryz.prog.follows .mixedOrders=true:=by kernel_rfl
 have HLN:=Lib.hid (rdS_len hrd);have HR:=Lib.hid hrd;have HO:=Lib.hid hok;clear hrd hok
 go_enter Tryz.func29, Tryz.ntmps29
 go_wp2_with fail
 go_loopw [3,4] (fun s v wr=>∃k a:Nat,v=.int .i64 (k:Int)/\s=.int .i64 (a:Int)/\k<=n/\a<=1000000/\Hid (rawR (l.take k)=a/\Below w.heap.size w wr)) (fun _ v _=>n-(intOf v).toNat)
 case atStart=>exact⟨0,0,by go_num,by go_num,by omega,by omega,Lib.hid ⟨rfl,Below.refl _ _⟩⟩
 case round =>
  obtain⟨k,a,rfl,rfl,hk,ha,HX⟩:=hrel;by_cases hkn:k<n
  ·obtain⟨ad,m,rfl,hbk,hx,e0,ej⟩:=sl_at (HR.out.below HX.out.2) hkn
   have ho:=HO.out m (List.mem_of_getElem? hx);obtain⟨q,t,d⟩:=m;have c0:wr.cell? (ad.add (k*3))=some (.int .i64 q):=e0;have c1:wr.cell? ⟨(ad.add (k*3)).block,(ad.add (k*3)).off+1,none⟩=some (.int .i64 t):=ej 0 (by decide);have c2:wr.cell? ⟨(ad.add (k*3)).block,(ad.add (k*3)).off+2,none⟩=some (.string d):=ej 1 (by decide);have h3:=(ok1_iff _).1 ho;dsimp only at h3;obtain⟨q',rfl⟩:∃q':Nat,q=q':=⟨q.toNat,by omega⟩
   obtain⟨t',rfl⟩:∃t':Nat,t=t':=⟨t.toNat,by omega⟩
   have HS:=Lib.hid (fun w=>rrsize_any q' t' d w ho);have hz:=recB_le ho;have HN:=Lib.hid ((rawR_take hx).trans (by rw[HX.out.1]));generalize (recB ((q':Int),(t':Int),d)).length=z at *
   have HB:=Lib.hid HX.out.2;have w0:IntKind.i64.wrap ((a:Int)+(z:Int))=(a:Int)+(z:Int):=by rw[IntKind.wrap_i64];omega
   clear e0 ej hx hbk ho h3 HX;by_cases hbig:1000000<a+z
   ·have hb2:(1000000:Int)<(a:Int)+(z:Int):=by omega
    have HE:=Lib.hid (show rawR l=1000000 from rawR_big (k:=k+1) (by rw[HN.out];omega));go_wp2_with (go_at_call 60;refine(HS.out _).mono ?_;rintro e1 w1 ⟨rfl,hb1⟩;have HB1:=Lib.hid (HB.out.trans (hb1.mono HB.out.size));clear hb1)
    go_ret
    exact⟨by rw[HE.out];rfl,HB1.out⟩
   ·have hb2: ¬ (1000000:Int)<(a:Int)+(z:Int):=by omega
    go_wp2_with (go_at_call 60;refine(HS.out _).mono ?_;rintro e1 w1 ⟨rfl,hb1⟩;have HB1:=Lib.hid (HB.out.trans (hb1.mono HB.out.size));clear hb1)
    go_roundw
    case rel=>exact⟨k+1,a+z,by go_num,by go_num,by omega,by omega,Lib.hid ⟨by rw[HN.out];omega,HB1.out⟩⟩
    case measure=>simp[intOf];omega
  ·obtain rfl:n=k:=by omega
   have HB:=Lib.hid HX.out.2;have HE:=Lib.hid (show rawR l=a from by rw[<-HX.out.1,List.take_of_length_le (by rw[HLN.out];exact Nat.le_refl _)]);clear HX;go_wp2_with fail
   go_ret
   exact⟨by rw[HE.out];rfl,HB.out⟩
end Op
end Go.Proofs.YtphfmgapiimliaaGreat
