/- A manifest's bytes; a new log's manifest and state. Plain. varint.Size, record.Size. buff.Raw, buff.Next. open.log: head, kept. A whole struct loaded in a quiet region: one step, no cell is opened. -/
import Derived.Test.YtphfmgapiimliaaGreatSc14
import Derived.Test.YtphfmgapiimliaaGreatSc09
import Derived.Test.YtphfmgapiimliaaGreatSc10
import Derived.Test.YtphfmgapiimliaaGreatSc17
import Derived.Test.YtphfmgapiimliaaGreatSc20
import Derived.Test.YtphfmgapiimliaaGreatSc04
import Derived.Test.YtphfmgapiimliaaGreatSc11
import Derived.Deep.LoopGhost
import Derived.Test.YtphfmgapiimliaaGreatSc06
namespace Go.Proofs.YtphfmgapiimliaaGreat
namespace Op
open Go.RowKit Hd Rd Sn Dk Vi
def en9 (x:En):List Nat:=[x.i.toNat,x.g.toNat,x.f.toNat,(if x.z then 1 else 0),x.c.toNat,x.b.toNat,x.e.toNat,x.l.toNat,x.n.toNat]
def mfN (m:Mf):List Nat:=[m.g.toNat,m.x.toNat,m.t.toNat,m.fl.toNat,m.es.length]++m.es.flatMap en9
def mfB (m:Mf):ByteArray:=⟨((mfN m).flatMap putV).toArray⟩
theorem length_en9:∀(l:List En),(l.flatMap en9).length=l.length*9
 | []=>rfl
 |m::l=>by rw[List.flatMap_cons,List.length_append,length_en9 l,List.length_cons];show 9+_=_;omega
theorem en9_take (l:List En) (k:Nat) (m:En) (h:l[k]? =some m):(l.take (k+1)).flatMap en9=(l.take k).flatMap en9++en9 m:=by
 rw[List.take_add_one,h,List.flatMap_append];simp
structure MfOk (m:Mf):Prop where
 g:1<=m.g/\m.g<=1000000000
 t:0<=m.t/\m.t<=1000000000
 x:1<=m.x/\m.x<=1000000
 f:1<=m.fl/\m.fl<=1000000000
 n:1<=m.es.length/\m.es.length<=100
 e:∀x∈m.es,okE x=true
theorem okMf_ok {m:Mf} (h:okMf m=true):MfOk m:=by
 unfold okMf at h;simp only[Bool.and_eq_true,decide_eq_true_eq] at h;obtain⟨h1,h2,h3⟩:=h;have hn:=okR_len2 h2;have hall:∀x∈m.es,okE x=true:=by
  unfold okR at h2;simp only[Bool.and_eq_true] at h2;exact rowG_mem _ _ h2.2.2
 rcases hx:m.es with _|⟨x,l⟩
 ·rw[hx] at hn;simp at hn
 rcases hy:m.es.getLast? with _|y
 ·rw[hx] at hy;simp at hy
 rw[hy] at h3;rw[hx] at h3;simp only[Bool.and_eq_true,decide_eq_true_eq] at h3;have b1:=okE_bd (hall x (by rw[hx];exact List.mem_cons_self ..));have b2:=okE_bd (hall y (List.mem_of_getLast? hy));exact⟨⟨h1.1,h1.2.1⟩,⟨h1.2.2.1,h1.2.2.2⟩,⟨by omega,by omega⟩,⟨by omega,by omega⟩,hn,hall⟩
theorem en9_lt {x:En} (h:okE x=true):∀y∈en9 x,y<9223372036854775808:=by
 have:=okE_bd h;intro y hy;unfold en9 at hy;simp only[List.mem_cons,List.not_mem_nil,or_false] at hy;rcases hy with rfl|rfl|rfl|rfl|rfl|rfl|rfl|rfl|rfl<;>first|omega|(split<;>omega)
theorem mfN_lt {m:Mf} (h:MfOk m):∀y∈mfN m,y<9223372036854775808:=by
 obtain⟨h1,h2,h3,h4,h5,h6⟩:=h;intro y hy;unfold mfN at hy;rw[List.mem_append] at hy;rcases hy with hy|hy
 ·simp only[List.mem_cons,List.not_mem_nil,or_false] at hy
  rcases hy with rfl|rfl|rfl|rfl|rfl<;>omega
 ·obtain⟨x,hx,hy⟩:=List.mem_flatMap.1 hy
  exact en9_lt (h6 x hx) y hy
theorem mfN_len (m:Mf):(mfN m).length=5+m.es.length*9:=by
 unfold mfN;rw[List.length_append,length_en9];rfl
def e1:En:=⟨1,1,1,false,0,0,0,0,0⟩
def m1:Mf:=⟨1,2,0,1,[e1]⟩
theorem m1_ok:okMf m1=true:=by decide
theorem m1_nums:mfN m1=[1,2,0,1,1,1,1,1,0,0,0,0,0,0]:=by decide
theorem m1_size:(mfB m1).size=14:=by
 unfold mfB;rw[m1_nums];show((_:List UInt8).toArray).size=14
 rw[List.size_toArray];simp only[List.flatMap_cons,List.flatMap_nil,putV_small (show 0<128 by decide),putV_small (show 1<128 by decide),putV_small (show 2<128 by decide)];rfl
def s1 (c:Cf):St:=⟨c,m1,[],12,1,0,[],false⟩
theorem hdr_size:(hdrB 1 1 1).size=12:=by
 unfold hdrB;rw[frB_size];unfold hb;rw[putV_small (show 1<128 by decide)];rfl
theorem s1_ok {c:Cf} (h:okCf c=true):okSt (s1 c)=true:=by
 have hb:(16:Int)<=c.b:=by
  unfold okCf at h;rw[decide_eq_true_eq] at h;exact h.1
 have k1:keptB (s1 c)=true:=by
  unfold keptB;show(okCf c&&okMf m1)=true
  rw[h,m1_ok];rfl
 have k2:laidB (s1 c)=true:=by
  have hz:endI (hdOf (s1 c)) (s1 c).bs=(s1 c).sz:=by
   show((hdrB 1 1 1).size:Int)=12
   rw[hdr_size];rfl
  unfold laidB;rw[hz,decide_eq_true rfl];rfl
 have k3:waitsB (s1 c)=true:=by
  unfold waitsB;have e:((rawR (s1 c).wt:Nat):Int)<(s1 c).cf.b:=by
   show((0:Nat):Int)<c.b
   omega
  rw[decide_eq_true e];rfl
 have k4:timedB (s1 c)=true:=rfl;unfold okSt;rw[k1,k2,k3,k4];rfl
theorem segN_size (i g:Int):(segN i g).size=21:=by
 show(Nm.seg i g).toArray.size=21
 rw[List.size_toArray,Nm.length_seg]
theorem seg_mani (i g:Int):segN i g≠Nf.maniN:=fun h=>by
 have:=congrArg ByteArray.size h;rw[segN_size] at this;exact absurd this (by decide)
theorem seg_temp (i g:Int):segN i g≠Nf.tempN:=fun h=>by
 have:=congrArg ByteArray.size h;rw[segN_size] at this;exact absurd this (by decide)
theorem temp_mani:Nf.tempN≠Nf.maniN:=by decide
end Op
end Go.Proofs.YtphfmgapiimliaaGreat
namespace Go.Proofs.YtphfmgapiimliaaGreat
namespace Rd
open Go.RowKit Vi
def lenR (m:Nat):Nat:=if m=0 then 0 else(putV m).length
theorem lenR_zero:lenR 0=0:=rfl
theorem lenR_step (n:Nat):(putV n).length=1+lenR (n/128):=by
 unfold lenR;by_cases h:n<128
 ·rw[putV_small h,if_pos (by omega)];rfl
 ·rw[putV_step h,if_neg (by omega),List.length_cons];omega
theorem lenR_pos (n:Nat) (h:0<n):lenR n=1+lenR (n/128):=by rw[<-lenR_step];exact if_neg (by omega)
set_option maxHeartbeats 1600000 in
theorem vsize_any (N:Nat) (w:World) (hN:N<9223372036854775808) :
  Calls Tryz.prog 150 #[.int .i64 (N:Int)] w fun e w'=>e=.returned (.int .i64 ((putV N).length:Int))/\w=w':=by
 have hput:(putV N).length<=9:=length_putV_le N 8 (by omega);have h0:=lenR_step N;have H0:=Lib.hid h0;clear h0
 go_enter Tryz.func150, Tryz.ntmps150
 go_wp2_with fail
 go_loopw [0,3] (fun m k wr=>∃(mk kk:Nat),m=.int .i64 mk/\k=.int .i64 kk/\mk<9223372036854775808/\kk<=9/\Hid (kk+lenR mk=(putV N).length)/\wr=w) (fun m _ _=>(intOf m).toNat)
 case atStart=>exact⟨N/128,1,by go_num,by go_num,by omega,by omega,H0.out.symm,rfl⟩
 case round =>
  obtain⟨mk,kk,rfl,rfl,hm,hk,heq,rfl⟩:=hrel;by_cases hlt:0<mk
  ·have hs:=lenR_pos mk hlt
   have hq:=heq.out;have hkk:kk+1<=9:=by omega
   have hq2:kk+1+lenR (mk/128)=(putV N).length:=by omega
   have HQ:=Lib.hid hq2;clear hs hq hq2;go_wp2_with fail
   exact⟨⟨mk/128,kk+1,by go_num,by go_num,by omega,hkk,HQ.out,trivial⟩,by simp[intOf];omega⟩
  ·obtain rfl:mk=0:=by omega
   have hq:=heq.out;rw[lenR_zero,Nat.add_zero] at hq;clear heq;subst hq;go_wp2_with fail
   go_ret
   exact⟨rfl,rfl⟩
set_option maxHeartbeats 6400000 in
set_option maxRecDepth 100000 in
theorem rsize_any (q t:Nat) (d:ByteArray) (w:World) (h:ok1 ((q:Int),(t:Int),d)=true) :
  Calls Tryz.prog 106 #[.agg #[.int .i64 (q:Int),.int .i64 (t:Int),.string d]] w fun e w'=>e=.returned (.int .i64 ((recB ((q:Int),(t:Int),d)).length:Int))/\Below w.heap.size w w':=by
 have mixed:Tryz.prog.follows .mixedOrders=true:=by kernel_rfl
 have hc:=check_any q t d;simp only[cE_ok h] at hc;have HC:=Lib.hid hc;rw[ok1_iff] at h;simp only at h;have hl:(recB ((q:Int),(t:Int),d)).length=(putV q).length+(putV t).length+(putV d.size).length+d.size:=by
  have:d.data.toList.length=d.size:=rfl;unfold recB;simp only[List.length_append,Int.toNat_natCast,this];omega
 have HL:=Lib.hid hl;have l1:(putV q).length<=9:=length_putV_le q 8 (by omega);have l2:(putV t).length<=9:=length_putV_le t 8 (by omega);have l3:(putV d.size).length<=9:=length_putV_le d.size 8 (by omega);have HS1:=Lib.hid (fun w=>vsize_any q w (by omega));have HS2:=Lib.hid (fun w=>vsize_any t w (by omega));have HS3:=Lib.hid (fun w=>vsize_any d.size w (by omega));generalize (putV q).length=a at *
 generalize (putV t).length=b at *
 generalize (putV d.size).length=c at *
 have hq1:((q:Int)==0)=false:=by rw[beq_eq_false_iff_ne];omega
 have hsz:d.size<=2000:=h.2.2.2.2;clear hc hl h
 go_enter Tryz.func106, Tryz.ntmps106
 go_wp2_with fail
 refine(HC.out _).mono ?_;rintro e1 w1 ⟨rfl,hb1⟩;have cc:∀j,w1.cell? ⟨w.heap.size,j,none⟩=(w.alloc (.cells #[.int .i64 (q:Int),.int .i64 (t:Int),.string d] 33)).cell? ⟨w.heap.size,j,none⟩:=fun j=>hb1.cell (p:=⟨w.heap.size,j,none⟩) (by simp)
 have c0:w1.cell? ⟨w.heap.size,0,none⟩=some (.int .i64 (q:Int)):=by rw[cc,World.cell?_alloc_new];rfl
 have c1:w1.cell? ⟨w.heap.size,1,none⟩=some (.int .i64 (t:Int)):=by rw[cc,World.cell?_alloc_new];rfl
 have c2:w1.cell? ⟨w.heap.size,2,none⟩=some (.string d):=by rw[cc,World.cell?_alloc_new];rfl
 have HB:=Lib.hid (ext_trans (ext_alloc w _) hb1);clear hb1 cc HC;go_wp2_with fail
 go_quiet (first|(go_at_call_of 150 (q:Int);exact(HS1.out _).mono fun _ _ h=>⟨h.1,_,h.2.symm⟩)|(go_at_call_of 150 (t:Int);exact(HS2.out _).mono fun _ _ h=>⟨h.1,_,h.2.symm⟩)|(go_at_call_of 150 (d.size:Int);exact(HS3.out _).mono fun _ _ h=>⟨h.1,_,h.2.symm⟩))
 go_wp2_with fail
 go_ret
 refine⟨ret_int (k:=.i64) (b:=_) ?_,below_drewN HB.out _⟩;rw[HL.out];omega
end Rd
end Go.Proofs.YtphfmgapiimliaaGreat
namespace Go.Proofs.YtphfmgapiimliaaGreat
namespace Op
open Go.RowKit Hd Rd Vi
theorem rawR_take {l:List Rc} {k:Nat} {r:Rc} (h:l[k]? =some r):rawR (l.take (k+1))=min (rawR (l.take k)+(recB r).length) 1000000:=by
 unfold rawR;rw[List.take_add_one,h,List.foldl_append];rfl
theorem rawR_le (l:List Rc):rawR l<=1000000:=by
 rcases List.eq_nil_or_concat l with rfl|⟨l',x,rfl⟩
 ·exact Nat.zero_le _
 ·unfold rawR
  rw[List.concat_eq_append,List.foldl_append];exact Nat.min_le_right _ _
theorem recB_le {r:Rc} (h:ok1 r=true):(recB r).length<=3000:=by
 rw[ok1_iff] at h;have l1:(putV r.1.toNat).length<=9:=length_putV_le _ 8 (by omega);have l2:(putV r.2.1.toNat).length<=9:=length_putV_le _ 8 (by omega);have l3:(putV r.2.2.size).length<=9:=length_putV_le _ 8 (by omega);have:r.2.2.data.toList.length=r.2.2.size:=rfl;unfold recB;simp only[List.length_append];omega
theorem row_ok1:∀(l:List Rc) (p:Option Rc),Rd.rowE p l=0-> ∀r∈l,ok1 r=true
 | [],_,_,r,h=>by cases h
 |x::l,p,h,r,hr=>by
  rw[Rd.rowE] at h;have h1:ok1 x=true:=by
   rcases hx:ok1 x with _|_
   ·rw[if_pos hx] at h;cases h
   ·rfl
  rw[if_neg (by rw[h1];simp)] at h;split at h
  ·cases h
  ·rcases List.mem_cons.1 hr with rfl|hr
   ·exact h1
   ·exact row_ok1 l (some x) h r hr
set_option maxHeartbeats 3200000 in
set_option maxRecDepth 100000 in
theorem raw_any (A:Option Addr) (n c:Nat) (l:List Rc) (w:World) (hrd:Rd w w.heap.size 3 A n (flS l)) (hn:n<=1000000) (hok:∀r∈l,ok1 r=true) :
  Calls Tryz.prog 64 #[.slice A n c] w fun e w'=>e=.returned (.int .i64 (rawR l:Int))/\Below w.heap.size w w':=by
 have mixed:Tryz.prog.follows .mixedOrders=true:=by kernel_rfl
 have HLN:=Lib.hid (rdS_len hrd);have HR:=Lib.hid hrd;have HO:=Lib.hid hok;clear hrd hok
 go_enter Tryz.func64, Tryz.ntmps64
 go_wp2_with fail
 go_loopw [3,8] (fun s v wr=>∃k a:Nat,v=.int .i64 (k:Int)/\s=.int .i64 (a:Int)/\k<=n/\a<=1000000/\Hid (rawR (l.take k)=a/\Below w.heap.size w wr)) (fun _ v _=>n-(intOf v).toNat)
 case atStart=>exact⟨0,0,by go_num,by go_num,by omega,by omega,Lib.hid ⟨rfl,Below.refl _ _⟩⟩
 case round =>
  obtain⟨k,a,rfl,rfl,hk,ha,HX⟩:=hrel;by_cases hkn:k<n
  ·obtain⟨ad,m,rfl,hbk,hx,e0,ej⟩:=sl_at (HR.out.below HX.out.2) hkn
   have ho:=HO.out m (List.mem_of_getElem? hx);obtain⟨q,t,d⟩:=m;have c0:wr.cell? (ad.add (k*3))=some (.int .i64 q):=e0;have c1:wr.cell? ⟨(ad.add (k*3)).block,(ad.add (k*3)).off+1,none⟩=some (.int .i64 t):=ej 0 (by decide);have c2:wr.cell? ⟨(ad.add (k*3)).block,(ad.add (k*3)).off+2,none⟩=some (.string d):=ej 1 (by decide);have h3:=(ok1_iff _).1 ho;dsimp only at h3;obtain⟨q',rfl⟩:∃q':Nat,q=q':=⟨q.toNat,by omega⟩
   obtain⟨t',rfl⟩:∃t':Nat,t=t':=⟨t.toNat,by omega⟩
   have HS:=Lib.hid (fun w=>rsize_any q' t' d w ho);have hz:=recB_le ho;have HN:=Lib.hid ((rawR_take hx).trans (by rw[HX.out.1]));generalize (recB ((q':Int),(t':Int),d)).length=z at *
   have HB:=Lib.hid (HX.out.2.trans ((ext_alloc wr (.cells #[.int .i64 (q':Int),.int .i64 (t':Int),.string d] 33)).mono HX.out.2.size));clear e0 ej hx hbk ho h3 HX;go_wp2_with (go_at_call 106;refine(HS.out _).mono ?_;rintro e1 w1 ⟨rfl,hb1⟩;have HB1:=Lib.hid (HB.out.trans (hb1.mono HB.out.size));clear hb1)
   all_goals
    go_roundw
    case rel=>exact⟨k+1,min (a+z) 1000000,by go_num,by go_num,by omega,by omega,Lib.hid ⟨HN.out,HB1.out⟩⟩
    case measure=>simp[intOf];omega
  ·obtain rfl:k=n:=by omega
   have HB:=Lib.hid HX.out.2;have HE:=Lib.hid (show rawR l=a from by rw[<-HX.out.1,List.take_of_length_le (by rw[HLN.out];exact Nat.le_refl _)]);clear HX;go_wp2_with fail
   go_ret
   exact⟨by rw[HE.out];rfl,HB.out⟩
def bnext (f:Int) (l:List Rc):Int:=match l.getLast? with
 |none=>f
 |some r=>r.1+1
set_option maxHeartbeats 3200000 in
set_option maxRecDepth 100000 in
theorem bnext_any (A:Option Addr) (n c:Nat) (f:Int) (l:List Rc) (w:World) (hrd:Rd w w.heap.size 3 A n (flS l)) (hn:n<=1000000) (hok:∀r∈l,ok1 r=true) :
  Calls Tryz.prog 65 #[.slice A n c,.int .i64 f] w fun e w'=>e=.returned (.int .i64 (bnext f l))/\Below w.heap.size w w':=by
 have mixed:Tryz.prog.follows .mixedOrders=true:=by kernel_rfl
 have hln:=rdS_len hrd;unfold bnext;rcases hl:l.getLast? with _|m
 ·have hl0:l=[]:=List.getLast?_eq_none_iff.1 hl
  subst hl0;simp only[List.length_nil] at hln;subst hln;dsimp only;clear hrd hn hok hl
  go_enter Tryz.func65, Tryz.ntmps65
  go_wp2_with fail
  go_ret
  exact⟨rfl,Below.refl _ _⟩
 ·dsimp only
  have hn0:0<n:=by
   rcases l with _|⟨x,l⟩
   ·cases hl
   ·simp at hln;omega
  obtain⟨j,hj⟩:∃j,n=j+1:=⟨n-1,by omega⟩
  obtain⟨ad,x,rfl,hbk,hx,e0,ej⟩:=sl_at (k:=j) hrd (by omega);rw[List.getLast?_eq_getElem?,hln,hj,Nat.add_sub_cancel,hx] at hl;obtain rfl:=Option.some.inj hl;have h3:=(ok1_iff _).1 (hok x (List.mem_of_getElem? hx));obtain⟨q,t,d⟩:=x;dsimp only at h3 ⊢;have c0:w.cell? (ad.add (j*3))=some (.int .i64 q):=e0;have b0:((n:Int)==0)=false:=by rw[beq_eq_false_iff_ne];omega
  have b1:(q==9223372036854775807)=false:=by rw[beq_eq_false_iff_ne];omega
  have b2:IntKind.i64.wrap ((n:Int)-1)=(j:Int):=by rw[IntKind.wrap_i64];omega
  have b3:(j:Int)<(n:Int):=by omega
  have b4:IntKind.i64.wrap (q+1)=q+1:=by rw[IntKind.wrap_i64];omega
  have b5:(0:Int)<=(j:Int):=by omega
  have HJ:=Lib.hid hj;clear hrd e0 ej hok hl hx hj h3 hbk hln
  go_enter Tryz.func65, Tryz.ntmps65
  go_wp2_with fail
  go_ret
  exact⟨rfl,Below.refl _ _⟩
end Op
end Go.Proofs.YtphfmgapiimliaaGreat
namespace Go.Proofs.YtphfmgapiimliaaGreat
namespace Op
open Go.RowKit Hd Rd Vi Dk
def sagg (s:St) (x y z:Sl):Value:=.agg (stc s x y z)
theorem Str.ext {w w':World} {s:St} {x y z:Sl} (h:Str w w.heap.size s x y z) (hb:Below w.heap.size w w'):Str w' w'.heap.size s x y z:=⟨(h.es.below hb).more hb.size,(h.bs.below hb).more hb.size,(h.wt.below hb).more hb.size,h.le,h.mx,h.no⟩
theorem hdOf_at {s:St} {j:Nat} {h:En} (hy:s.mf.es[j]? =some h) (hl:s.mf.es.length=j+1):hdOf s=h:=by
 unfold hdOf;rw[List.getLast?_eq_getElem?,hl,Nat.add_sub_cancel,hy];rfl
set_option maxHeartbeats 3200000 in
set_option maxRecDepth 100000 in
theorem lhead_any (s:St) (x y z:Sl) (w:World) (h:Str w w.heap.size s x y z) (h0:0<s.mf.es.length) (hx1:x.n<=1000000) :
  Calls Tryz.prog 23 #[sagg s x y z] w fun e w'=>e=.returned (.agg #[.int .i64 (hdOf s).i,.int .i64 (hdOf s).g,.int .i64 (hdOf s).f])/\Below w.heap.size w w':=by
 have hln:=rdS_len h.es;obtain⟨j,hj⟩:∃j,x.n=j+1:=⟨x.n-1,by omega⟩
 obtain⟨ad,e,hA,hbk,hy,f0,fj⟩:=sl_at (k:=j) h.es (by omega);rw[hdOf_at hy (by omega)];clear h hy h0 hln;obtain⟨⟨cb,ct,cs,ca,ck,cy,co⟩,⟨mg,mx,mt,mf,es⟩,bs,sz,nx,nw,wt,rd⟩:=s;obtain⟨A1,n1,c1⟩:=x;obtain⟨A2,n2,c2⟩:=y;obtain⟨A3,n3,c3⟩:=z;unfold sagg stc Sl.v;dsimp only at *
 obtain⟨ei,eg,ef,ez,ec,eb,ee,el,en⟩:=e;have HW:=Lib.hid (ext_second w (.cells #[.int .i64 cb,.int .i64 ct,.int .i64 cs,.int .i64 ca,.int .i64 ck,.int .i64 cy,.int .i64 co,.int .i64 mg,.int .i64 mx,.int .i64 mt,.int .i64 mf,.slice A1 n1 c1,.slice A2 n2 c2,.int .i64 sz,.int .i64 nx,.int .i64 nw,.slice A3 n3 c3,.bool rd] 59) (.cells #[.int .i64 0,.int .i64 0,.int .i64 0] 35));have u0:w.cell? (ad.add (j*9))=some (.int .i64 ei):=f0;have u1:w.cell? ⟨(ad.add (j*9)).block,(ad.add (j*9)).off+1,none⟩=some (.int .i64 eg):=fj 0 (by decide);have u2:w.cell? ⟨(ad.add (j*9)).block,(ad.add (j*9)).off+2,none⟩=some (.int .i64 ef):=fj 1 (by decide);subst hA;have hlt:(ad.add (j*9)).block<w.heap.size:=by rw[add_block];exact hbk
 have k0:=(HW.out.cell hlt).trans u0;have k1:=(HW.out.cell (p:=⟨(ad.add (j*9)).block,(ad.add (j*9)).off+1,none⟩) hlt).trans u1;have k2:=(HW.out.cell (p:=⟨(ad.add (j*9)).block,(ad.add (j*9)).off+2,none⟩) hlt).trans u2;have b2:IntKind.i64.wrap ((n1:Int)-1)=(j:Int):=by rw[IntKind.wrap_i64];omega
 have b3:(j:Int)<(n1:Int):=by omega
 have b5:(0:Int)<=(j:Int):=by omega
 have HJ:=Lib.hid hj;clear hj f0 fj u0 u1 u2 hbk hlt
 go_enter Tryz.func23, Tryz.ntmps23
 go_wp2_with fail
 refine bodyPost_ret (v:=.agg #[.int .i64 ei,.int .i64 eg,.int .i64 ef]) (by simp[results,go_sem]) rfl ?_;exact⟨rfl,ext_second w _ _⟩
set_option maxHeartbeats 3200000 in
set_option maxRecDepth 100000 in
theorem kept_any (s:St) (x y z:Sl) (w:World) (h:Str w w.heap.size s x y z) (hx1:x.n<=1000000) :
  Calls Tryz.prog 31 #[sagg s x y z] w fun e w'=>e=.returned (.bool (keptB s))/\Below w.heap.size w w':=by
 have HM:=Lib.hid (fun(wx:World) (hb:Below w.heap.size w wx)=>mcheck_any s.mf x wx (h.ext hb).es hx1);have HC:=Lib.hid (fun wx=>pcheck_any s.cf wx);have HE:=Lib.hid (show keptB s=(okCf s.cf&&okMf s.mf) from rfl);unfold mfE at HM;unfold cfE at HC;unfold cagg at HC;unfold magg at HM;generalize okCf s.cf=K at *
 generalize okMf s.mf=M at *
 generalize keptB s=E at *
 clear h;obtain⟨⟨cb,ct,cs,ca,ck,cy,co⟩,⟨mg,mx,mt,mf,es⟩,bs,sz,nx,nw,wt,rd⟩:=s;obtain⟨A1,n1,c1⟩:=x;obtain⟨A2,n2,c2⟩:=y;obtain⟨A3,n3,c3⟩:=z;unfold sagg stc Sl.v;dsimp only at *
 have HK:=Lib.hid (Blk.new w #[.int .i64 cb,.int .i64 ct,.int .i64 cs,.int .i64 ca,.int .i64 ck,.int .i64 cy,.int .i64 co,.int .i64 mg,.int .i64 mx,.int .i64 mt,.int .i64 mf,.slice A1 n1 c1,.slice A2 n2 c2,.int .i64 sz,.int .i64 nx,.int .i64 nw,.slice A3 n3 c3,.bool rd] 59);have HW:=Lib.hid (ext_alloc w (.cells #[.int .i64 cb,.int .i64 ct,.int .i64 cs,.int .i64 ca,.int .i64 ck,.int .i64 cy,.int .i64 co,.int .i64 mg,.int .i64 mx,.int .i64 mt,.int .i64 mf,.slice A1 n1 c1,.slice A2 n2 c2,.int .i64 sz,.int .i64 nx,.int .i64 nw,.slice A3 n3 c3,.bool rd] 59));have hE:=HE.out;clear HE;rcases K with _|_
 all_goals
  rcases M with _|_
  all_goals
   subst hE;simp only[Bool.false_eq_true,if_false,if_true] at HM HC
   go_enter Tryz.func31, Tryz.ntmps31
   go_wp2_with (first
    |(go_at_call 50;refine(HC.out _).mono ?_;rintro e1 w1 ⟨rfl,hb1⟩;have HW:=Lib.hid (HW.out.trans (hb1.mono HW.out.size));have HK:=Lib.hid (HK.out.ext hb1);clear hb1;have k7:=HK.out.cell 7 (v:=.int .i64 mg) rfl;have k8:=HK.out.cell 8 (v:=.int .i64 mx) rfl;have k9:=HK.out.cell 9 (v:=.int .i64 mt) rfl;have k10:=HK.out.cell 10 (v:=.int .i64 mf) rfl;have k11:=HK.out.cell 11 (v:=.slice A1 n1 c1) rfl)
    |(go_at_call 61;refine(HM.out _ HW.out).mono ?_;rintro e2 w2 ⟨rfl,hb2⟩;have HW:=Lib.hid (HW.out.trans (hb2.mono HW.out.size));clear hb2))
   go_ret
   exact⟨rfl,HW.out⟩
end Op
end Go.Proofs.YtphfmgapiimliaaGreat
namespace Go.Proofs.YtphfmgapiimliaaGreat
open Go.RowKit
theorem wpQuiet_load_row {P:Program} {ops:Array Oper} {C:World->Prop} {Q:Act->Prop} {rest:List Oper} {o:Oper} {a:Act} (t:TypeId) (x:Operand) (ho:o.op=.load t x) (hw:Region.wanted o (yielded ops a.tmps)=true)
  (g:Nat) (c:Array Value) (d:TypeDesc) (hx:a.eval x=.pointer (some ⟨g,0,none⟩)) (hh:∀w,C w->Blk w g c t) (hu:P.underlying t=some d) (hd:(match d with|.struct _|.array _ _=>true|_=>false)=true) (hi:(P.info? t).map (·.size)=some c.size)
  (h:wpQuiet P ops C Q rest (a.put o.dst (.agg c))):wpQuiet P ops C Q (o::rest) a:=by
 refine wpQuiet_step fun K hK=>?_
 rw[if_pos hw];refine⟨.agg c,fun w hC=>?_,hK _ h⟩;unfold Oper.quietAt execOp;simp only[ho,hx,Instr.loadAt,Instr.sureAddr,Sem.run_bind,Sem.run_pure,Result.andThen_ok,run_loadVar_row w g t t c (0,0) d (hh w hC) hu hd hi];exact⟨rfl,rfl⟩
theorem quiet_load_row {P:Program} {C:World->Prop} {K:Act->Prop} {o:Oper} {a:Act} (t:TypeId) (x:Operand) (ho:o.op=.load t x)
  (g:Nat) (c:Array Value) (d:TypeDesc) (hx:a.eval x=.pointer (some ⟨g,0,none⟩)) (hh:∀w,C w->Blk w g c t) (hu:P.underlying t=some d) (hd:(match d with|.struct _|.array _ _=>true|_=>false)=true) (hi:(P.info? t).map (·.size)=some c.size)
  (h:K (a.put o.dst (.agg c))):o.quiet P a C K:=by
 refine⟨.agg c,fun w hC=>?_,h⟩;unfold Oper.quietAt execOp;simp only[ho,hx,Instr.loadAt,Instr.sureAddr,Sem.run_bind,Sem.run_pure,Result.andThen_ok,run_loadVar_row w g t t c (0,0) d (hh w hC) hu hd hi];exact⟨rfl,rfl⟩
end Go.Proofs.YtphfmgapiimliaaGreat
