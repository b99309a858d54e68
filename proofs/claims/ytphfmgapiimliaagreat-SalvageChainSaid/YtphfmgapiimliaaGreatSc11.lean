/- varveref27.Check, varveref21.Check, varveref24.Check. record.Row. strings.Builder: numbers' bytes. head.numbers. head.Put. -/
import Derived.Test.YtphfmgapiimliaaGreatSc10
import Derived.Test.YtphfmgapiimliaaGreatSc04
import Derived.Deep.LoopGhost
namespace Go.Proofs.YtphfmgapiimliaaGreat
namespace Op
open Go.RowKit Hd Rd Dk
set_option maxHeartbeats 6400000 in
set_option maxRecDepth 100000 in
theorem r27_any (c:Cf) (w:World):Calls Tryz.prog 24 #[cagg c] w fun e w'=>e=.returned (.int .i64 (cfE c))/\Below w.heap.size w w':=by
 have HE:=Lib.hid (show cfE c=if 16<=c.b/\c.b<=4000/\c.b<=c.t/\c.t<=8000/\200<=c.s/\c.s<=100000/\0<=c.a/\c.a<=1000000000/\0<=c.k/\c.k<=90/\0<=c.y/\c.y<=10000000/\0<=c.o/\c.o<=1000000000 then 0 else 270 from by
  unfold cfE okCf;simp only[decide_eq_true_eq])
 obtain⟨b,t,s,a,k,y,o⟩:=c;unfold cagg;generalize cfE _=E at *
 dsimp only at *
 have HB:=Lib.hid (ext_alloc w (.cells #[.int .i64 b,.int .i64 t,.int .i64 s,.int .i64 a,.int .i64 k,.int .i64 y,.int .i64 o] 23))
 go_enter Tryz.func24, Tryz.ntmps24
 go_wp2_with fail
 all_goals
  go_ret
  refine⟨ret_int ?_,HB.out⟩;rw[HE.out]
  first
   |exact(if_pos (by omega)).symm
   |exact(if_neg (by omega)).symm
set_option maxHeartbeats 3200000 in
set_option maxRecDepth 100000 in
theorem r21c_any (i g f:Int) (w:World):Calls Tryz.prog 96 #[.agg #[.int .i64 i,.int .i64 g,.int .i64 f]] w fun e w'=>e=.returned (.int .i64 (if okH i g f=true then 0 else 210))/\Below w.heap.size w w':=by
 have HE:=Lib.hid (show(if okH i g f=true then(0:Int) else 210)=if 1<=i/\i<=999999/\1<=g/\g<=999999/\1<=f/\f<=1000000000 then 0 else 210 from by
  unfold okH;simp only[decide_eq_true_eq])
 generalize (if okH i g f=true then(0:Int) else 210)=E at *
 have HB:=Lib.hid (ext_alloc w (.cells #[.int .i64 i,.int .i64 g,.int .i64 f] 35))
 go_enter Tryz.func96, Tryz.ntmps96
 go_wp2_with fail
 all_goals
  go_ret
  refine⟨ret_int ?_,HB.out⟩;rw[HE.out]
  first
   |exact(if_pos (by omega)).symm
   |exact(if_neg (by omega)).symm
set_option maxHeartbeats 6400000 in
set_option maxRecDepth 100000 in
theorem r24c_any (x:En) (w:World):Calls Tryz.prog 79 #[eagg x] w fun e w'=>e=.returned (.int .i64 (eE x))/\Below w.heap.size w w':=by
 have HC:=Lib.hid (fun w=>r21c_any x.i x.g x.f w);have HE:=Lib.hid (show eE x=if okH x.i x.g x.f=true/\(if x.z then(1<=x.b/\x.b<=1000/\x.b<=x.c/\x.c<=1000000000/\x.f+x.c<=1000000001/\0<=x.e/\x.e<=x.l/\x.l<=1000000000/\1<=x.n/\x.n<=1000000) else(x.c=0/\x.b=0/\x.e=0/\x.l=0/\x.n=0)) then 0 else 240 from by
  unfold eE okE;rcases x.z with _|_<;>simp)
 have HF:=Lib.hid (show okH x.i x.g x.f=true->1<=x.f/\x.f<=1000000000 from fun h=>by
  unfold okH at h;rw[decide_eq_true_eq] at h;omega)
 obtain⟨i,g,f,z,c,b,e,l,n⟩:=x;unfold eagg at *
 generalize eE _=E at *
 dsimp only at *
 have HN:=Lib.hid (Blk.new w #[.int .i64 i,.int .i64 g,.int .i64 f,.bool z,.int .i64 c,.int .i64 b,.int .i64 e,.int .i64 l,.int .i64 n] 48);have HB:=Lib.hid (ext_alloc w (.cells #[.int .i64 i,.int .i64 g,.int .i64 f,.bool z,.int .i64 c,.int .i64 b,.int .i64 e,.int .i64 l,.int .i64 n] 48));rcases hk:okH i g f with _|_
 all_goals rw[hk] at HC HE HF
 case false =>
  have HR:=Lib.hid (show E=240 from by rw[HE.out];simp);simp only[Bool.false_eq_true,if_false] at HC;clear hk HE HF
  go_enter Tryz.func79, Tryz.ntmps79
  go_wp2_with (go_at_call 96;refine(HC.out _).mono ?_;rintro e1 w1 ⟨rfl,hb1⟩;have HB:=Lib.hid (HB.out.trans (hb1.mono HB.out.size));clear hb1)
  go_ret
  exact⟨by rw[HR.out];rfl,HB.out⟩
 case true =>
  simp only[if_true] at HC;have hF:=HF.out rfl;obtain⟨f1,f2⟩:=hF;rcases z with _|_
  case false =>
   go_enter Tryz.func79, Tryz.ntmps79
   go_wp2_with (go_at_call 96;refine(HC.out _).mono ?_;rintro e1 w1 ⟨rfl,hb1⟩;have HB:=Lib.hid (HB.out.trans (hb1.mono HB.out.size));have HN:=Lib.hid (HN.out.ext hb1);clear hb1;have k0:=HN.out.cell 0 (v:=.int .i64 i) rfl;have k1:=HN.out.cell 1 (v:=.int .i64 g) rfl;have k2:=HN.out.cell 2 (v:=.int .i64 f) rfl;have k3:=HN.out.cell 3 (v:=.bool false) rfl;have k4:=HN.out.cell 4 (v:=.int .i64 c) rfl;have k5:=HN.out.cell 5 (v:=.int .i64 b) rfl;have k6:=HN.out.cell 6 (v:=.int .i64 e) rfl;have k7:=HN.out.cell 7 (v:=.int .i64 l) rfl;have k8:=HN.out.cell 8 (v:=.int .i64 n) rfl)
   all_goals
    go_ret
    refine⟨ret_int ?_,HB.out⟩;rw[HE.out];simp only[wrap64,true_and,Bool.false_eq_true,if_false,if_true,bne_iff_ne,ne_eq,bne_eq_false_iff_eq] at *
    first
     |exact(if_pos (by omega)).symm
     |exact(if_neg (by omega)).symm
  case true =>
   go_enter Tryz.func79, Tryz.ntmps79
   go_wp2_with (go_at_call 96;refine(HC.out _).mono ?_;rintro e1 w1 ⟨rfl,hb1⟩;have HB:=Lib.hid (HB.out.trans (hb1.mono HB.out.size));have HN:=Lib.hid (HN.out.ext hb1);clear hb1;have k0:=HN.out.cell 0 (v:=.int .i64 i) rfl;have k1:=HN.out.cell 1 (v:=.int .i64 g) rfl;have k2:=HN.out.cell 2 (v:=.int .i64 f) rfl;have k3:=HN.out.cell 3 (v:=.bool true) rfl;have k4:=HN.out.cell 4 (v:=.int .i64 c) rfl;have k5:=HN.out.cell 5 (v:=.int .i64 b) rfl;have k6:=HN.out.cell 6 (v:=.int .i64 e) rfl;have k7:=HN.out.cell 7 (v:=.int .i64 l) rfl;have k8:=HN.out.cell 8 (v:=.int .i64 n) rfl)
   all_goals
    go_ret
    refine⟨ret_int ?_,HB.out⟩;rw[HE.out];simp only[wrap64,true_and,Bool.false_eq_true,if_false,if_true,bne_iff_ne,ne_eq,bne_eq_false_iff_eq] at *
    first
     |exact(if_pos (by omega)).symm
     |exact(if_neg (by omega)).symm
end Op
end Go.Proofs.YtphfmgapiimliaaGreat
namespace Go.Proofs.YtphfmgapiimliaaGreat
namespace Rd
open Go.RowKit
set_option maxHeartbeats 6400000 in
set_option maxRecDepth 100000 in
theorem row_any (A:Option Addr) (n c:Nat) (l:List (Int×Int×ByteArray)) (w:World) (hrd:Rd w w.heap.size 3 A n (fl3 l)) (hn:n<=1099511627776) :
  Calls Tryz.prog 63 #[.slice A n c] w fun e w'=>e=.returned (.int .i64 (rowE none l))/\Below w.heap.size w w':=by
 have mixed:Tryz.prog.follows .mixedOrders=true:=by kernel_rfl
 have hln:=rd3_len hrd;have HC:=Lib.hid (fun q t d w=>check_any q t d w);have HR:=Lib.hid hrd;clear hrd
 go_enter Tryz.func63, Tryz.ntmps63
 go_wp2_with fail
 go_loopw [8] (fun v wr=>∃k:Nat,v=.int .i64 k/\k<=n/\Hid (rowE (pv l k) (l.drop k)=rowE none l/\(∀j r,j<k->l[j]? =some r->ok1 r=true)/\Below w.heap.size w wr)) (fun v _=>n-(intOf v).toNat)
 case atStart=>exact⟨0,by go_num,by omega,rfl,fun j r h=>absurd h (by omega),Below.refl _ _⟩
 case round =>
  obtain⟨k,rfl,hk,HX⟩:=hrel;by_cases hkn:k<n
  ·obtain⟨ad,q,t,d,rfl,hbk,hx,hc0,hc1,hc2⟩:=rec3 (HR.out.below HX.out.2.2) hkn
   by_cases ho:ok1 (q,t,d)=true
   ·have hce:=cE_ok ho
    have hok:∀j r,j<k+1->l[j]? =some r->ok1 r=true:=by
     intro j r hj hr;rcases Nat.lt_or_ge j k with h|h
     ·exact HX.out.2.1 j r h hr
     ·obtain rfl:j=k:=by omega
      rw[hx] at hr;cases hr;exact ho
    have HOK:=Lib.hid hok;clear hok;rcases k with _|k
    ·have HRE:=Lib.hid ((row_on0 hx ho).symm.trans HX.out.1)
     have hz:ad.add (0*3)=ad:=by rw[Nat.zero_mul];rfl
     rw[hz] at hc0 hc1 hc2;clear hz;have HB:=Lib.hid HX.out.2.2;go_wp2_with fail
     refine(HC.out _ _ _ _).mono ?_;rintro e1 w1 ⟨rfl,hb1⟩;rw[hce];have HB1:=Lib.hid (ext_trans HB.out (ext_trans (ext_alloc wr _) hb1));clear hc0 hc1 hc2 hb1 hx HX HB HC;go_wp2_with fail
     go_quiet (fail)
     go_wp2_with fail
     exact⟨⟨1,by go_num,by omega,HRE.out,HOK.out,below_drewN HB1.out _⟩,by simp[intOf];omega⟩
    ·obtain⟨ad',q',t',d',e',hbk',hx',hc0',hc1',-⟩:=rec3 (HR.out.below HX.out.2.2) (show k<n by omega)
     obtain rfl:ad=ad':=by simpa using e'
     have hp:=HX.out.2.1 k _ (by omega) hx';rw[ok1_iff] at hp;simp only at hp;have hp1:=hp.1;have hp2:=hp.2.1;have i1:(((k+1:Nat):Int)-1)=((k:Nat):Int):=by omega
     have i2:(0:Int)<((k+1:Nat):Int):=by omega
     have i3:(k:Int)<(n:Int):=by omega
     have i4:(0:Int)<=(k:Int):=by omega
     have i5:IntKind.i64.wrap (k:Int)=(k:Int):=by rw[IntKind.wrap_i64];omega
     have i6:IntKind.i64.wrap (q'+1)=q'+1:=by rw[IntKind.wrap_i64];omega
     clear hp e';by_cases hf1:q=q'+1
     ·subst hf1
      by_cases hf2:t<t'
      ·have HRE:=Lib.hid ((row_off hx hx' ho (.inr hf2)).symm.trans HX.out.1)
       have HB:=Lib.hid HX.out.2.2;go_wp2_with fail
       refine(HC.out _ _ _ _).mono ?_;rintro e1 w1 ⟨rfl,hb1⟩;rw[hce];have hh:∀p:Addr,p.block<w.heap.size->w1.cell? p=wr.cell? p:=fun p hp=>(hb1.cell (by simp;have:=HB.out.size;omega)).trans (World.cell?_alloc_lt wr _ p (by have:=HB.out.size;omega))
       have c0:w1.cell? ⟨wr.heap.size,0,none⟩=some (.int .i64 (q'+1)):=by rw[hb1.cell (p:=⟨wr.heap.size,0,none⟩) (by simp),World.cell?_alloc_new];rfl
       have c1:w1.cell? ⟨wr.heap.size,1,none⟩=some (.int .i64 t):=by rw[hb1.cell (p:=⟨wr.heap.size,1,none⟩) (by simp),World.cell?_alloc_new];rfl
       have d0:=(hh _ (by rw[add_block];exact hbk')).trans hc0';have d1:=(hh ⟨(ad.add (k*3)).block,(ad.add (k*3)).off+1,none⟩ (by rw[add_block];exact hbk')).trans hc1';have HB1:=Lib.hid (ext_trans HB.out (ext_trans (ext_alloc wr _) hb1));clear hc0 hc1 hc2 hc0' hc1' hb1 hh hx hx' HX HB HC;go_wp2_with fail
       go_quiet (fail)
       go_wp2_with fail
       go_ret
       exact⟨ret_int HRE.out,below_drewN HB1.out _⟩
      ·have HRE:=Lib.hid ((row_on hx hx' ho (by simp only;omega)).symm.trans HX.out.1)
       have HB:=Lib.hid HX.out.2.2;go_wp2_with fail
       refine(HC.out _ _ _ _).mono ?_;rintro e1 w1 ⟨rfl,hb1⟩;rw[hce];have hh:∀p:Addr,p.block<w.heap.size->w1.cell? p=wr.cell? p:=fun p hp=>(hb1.cell (by simp;have:=HB.out.size;omega)).trans (World.cell?_alloc_lt wr _ p (by have:=HB.out.size;omega))
       have c0:w1.cell? ⟨wr.heap.size,0,none⟩=some (.int .i64 (q'+1)):=by rw[hb1.cell (p:=⟨wr.heap.size,0,none⟩) (by simp),World.cell?_alloc_new];rfl
       have c1:w1.cell? ⟨wr.heap.size,1,none⟩=some (.int .i64 t):=by rw[hb1.cell (p:=⟨wr.heap.size,1,none⟩) (by simp),World.cell?_alloc_new];rfl
       have d0:=(hh _ (by rw[add_block];exact hbk')).trans hc0';have d1:=(hh ⟨(ad.add (k*3)).block,(ad.add (k*3)).off+1,none⟩ (by rw[add_block];exact hbk')).trans hc1';have HB1:=Lib.hid (ext_trans HB.out (ext_trans (ext_alloc wr _) hb1));clear hc0 hc1 hc2 hc0' hc1' hb1 hh hx hx' HX HB HC;go_wp2_with fail
       go_quiet (fail)
       go_wp2_with fail
       exact⟨⟨k+2,by go_num,by omega,HRE.out,HOK.out,below_drewN HB1.out _⟩,by simp[intOf];omega⟩
     ·have HRE:=Lib.hid ((row_off hx hx' ho (.inl hf1)).symm.trans HX.out.1)
      have HB:=Lib.hid HX.out.2.2;go_wp2_with fail
      refine(HC.out _ _ _ _).mono ?_;rintro e1 w1 ⟨rfl,hb1⟩;rw[hce];have hh:∀p:Addr,p.block<w.heap.size->w1.cell? p=wr.cell? p:=fun p hp=>(hb1.cell (by simp;have:=HB.out.size;omega)).trans (World.cell?_alloc_lt wr _ p (by have:=HB.out.size;omega))
      have c0:w1.cell? ⟨wr.heap.size,0,none⟩=some (.int .i64 q):=by rw[hb1.cell (p:=⟨wr.heap.size,0,none⟩) (by simp),World.cell?_alloc_new];rfl
      have c1:w1.cell? ⟨wr.heap.size,1,none⟩=some (.int .i64 t):=by rw[hb1.cell (p:=⟨wr.heap.size,1,none⟩) (by simp),World.cell?_alloc_new];rfl
      have d0:=(hh _ (by rw[add_block];exact hbk')).trans hc0';have d1:=(hh ⟨(ad.add (k*3)).block,(ad.add (k*3)).off+1,none⟩ (by rw[add_block];exact hbk')).trans hc1';have HB1:=Lib.hid (ext_trans HB.out (ext_trans (ext_alloc wr _) hb1));clear hc0 hc1 hc2 hc0' hc1' hb1 hh hx hx' HX HB HC;go_wp2_with fail
      go_quiet (fail)
      go_wp2_with fail
      go_ret
      exact⟨ret_int HRE.out,below_drewN HB1.out _⟩
   ·have hce:=cE_no ho
    have HRE:=Lib.hid ((row_no hx ho).symm.trans HX.out.1);have HB:=Lib.hid HX.out.2.2;go_wp2_with fail
    refine(HC.out _ _ _ _).mono ?_;rintro e1 w1 ⟨rfl,hb1⟩;rw[hce];have HB1:=Lib.hid (ext_trans HB.out (ext_trans (ext_alloc wr _) hb1));clear hc0 hc1 hc2 hb1 hx HX HB HC;go_wp2_with fail
    go_ret
    exact⟨ret_int HRE.out,HB1.out⟩
  ·obtain rfl:k=n:=by omega
   have HRE:=Lib.hid ((row_end (l:=l) (k:=k) (by omega)).symm.trans HX.out.1);have HB:=Lib.hid HX.out.2.2;clear HX HC;go_wp2_with fail
   go_ret
   exact⟨ret_int HRE.out,HB.out⟩
end Rd
end Go.Proofs.YtphfmgapiimliaaGreat
namespace Go.Proofs.YtphfmgapiimliaaGreat
namespace Rd
open Go.RowKit Vi Bd
theorem Bb_below {w w':World} {B b:Nat} {l:List UInt8} (h:Bb w B b l) (hb:Below w.heap.size w w'):Bb w' B b l:=h.keep hb.size fun k _ hk=>hb.block k hk
theorem vtxt_list (n:Nat):(vtxt n).data.toList=putV n:=by simp[vtxt]
theorem vtxt_size (n:Nat):(vtxt n).size=(putV n).length:=by simp[vtxt,ByteArray.size]
end Rd
end Go.Proofs.YtphfmgapiimliaaGreat
namespace Go.Proofs.YtphfmgapiimliaaGreat
namespace Hd
open Go.RowKit Vi Bd Rd
def nv (l:List Nat):List Value:=l.map fun(n:Nat)=>Value.int .i64 (n:Int)
theorem flat_take (l:List Nat) (k x:Nat) (h:l[k]? =some x):(l.take (k+1)).flatMap putV=(l.take k).flatMap putV++putV x:=by
 rw[List.take_add_one,h,List.flatMap_append];simp
theorem flat_len:∀(l:List Nat),(∀x∈l,x<9223372036854775808)->(l.flatMap putV).length<=9*l.length
 | [],_=>by simp
 |x::l,h=>by
  have h1:=flat_len l (fun y hy=>h y (List.mem_cons_of_mem _ hy))
  have h2:=length_putV_le x 8 (by have:=h x (List.mem_cons_self ..);have:(128:Nat)^(8+1)=9223372036854775808:=by decide
                                  omega)
  rw[List.flatMap_cons,List.length_append,List.length_cons];omega
set_option maxHeartbeats 3200000 in
set_option maxRecDepth 100000 in
theorem numbers_any (A:Option Addr) (n c:Nat) (l:List Nat) (w:World) (hrd:Rd w w.heap.size 1 A n (nv l)) (hn:n<=100000) (hl:∀x∈l,x<9223372036854775808) :
  Calls Tryz.prog 147 #[.slice A n c] w fun e w'=>e=.returned (.tuple #[.string ⟨(l.flatMap putV).toArray⟩,.int .i64 0])/\Below w.heap.size w w':=by
 have mixed:Tryz.prog.follows .mixedOrders=true:=by kernel_rfl
 have hbb:=bb_new w;have HB:=Lib.hid (ext_alloc w (.cells #[.pointer none,.slice none 0 0] 209));have HBB:=Lib.hid hbb;clear hbb
 go_enter Tryz.func147, Tryz.ntmps147
 go_wp2_with fail
 generalize w.alloc (.cells #[.pointer none,.slice none 0 0] 209)=w4 at *
 have hln:l.length=n:=by have:=hrd.len;simpa[nv] using this
 have HL:=Lib.hid hl;have HLN:=Lib.hid hln;have HR:=Lib.hid hrd;have HSZ:=Lib.hid (flat_len l hl);clear hl hln hrd;go_loopg [11] n (fun kx s11 wr=>∃k:Nat,s11=.int .i64 (k:Int)/\k<=n/\n-k<=kx/\Hid (Bb wr w.heap.size w.heap.size ((l.take k).flatMap putV)/\Below w.heap.size w wr))
 case atStart=>exact⟨0,rfl,by omega,by omega,Lib.hid ⟨HBB.out,HB.out⟩⟩
 case round =>
  clear HBB HB;obtain⟨k,rfl,hk,hkx,H⟩:=hrel;by_cases hlt:k<n
  ·have hlk:k<l.length:=by rw[HLN.out];exact hlt
   obtain⟨ad,hA,hbk,hc⟩:=(HR.out.ext H.out.2).cells (by omega);have hx:l[k]? =some l[k]:=List.getElem?_eq_getElem hlk;have hcell:=hc k (.int .i64 ((l[k]:Nat):Int)) (by unfold nv;rw[List.getElem?_map,hx];rfl);have hxl:=HL.out l[k] (List.getElem_mem hlk);have HFT:=Lib.hid (flat_take l k l[k] hx);have HTL:=Lib.hid (show((l.take k).flatMap putV).length<=9*n by
    have:=flat_len (l.take k) (fun x hx=>HL.out x (List.mem_of_mem_take hx));rw[List.length_take] at this;omega)
   have HVL:=Lib.hid (length_putV_le l[k] 8 (by have:(128:Nat)^(8+1)=9223372036854775808:=by decide
                                                omega))
   subst hA;have hki:(k:Int)<(n:Int):=by omega
   clear hc hbk hx;generalize l[k]=x at *
   have HP:=Lib.hid (put_any x wr hxl);clear hlk;go_wp2_with fail
   refine HP.out.mono ?_;rintro e2 w2 ⟨rfl,hb2⟩;have hW:=write_any w.heap.size w.heap.size _ (vtxt x) w2 (Bb_below H.out.1 hb2) (by rw[vtxt_size];have:=HTL.out;have:=HVL.out;omega) (by have:=H.out.2.size;have:=hb2.size;omega);rw[vtxt_list,<-HFT.out] at hW;have HW:=Lib.hid hW;have HB2:=Lib.hid (H.out.2.trans (hb2.mono H.out.2.size));clear hW hb2 H;go_wp2_with fail
   refine HW.out.mono ?_;rintro e3 w3 ⟨rfl,hbb3,hb3⟩;have H3:=Lib.hid (And.intro hbb3 (HB2.out.trans hb3));clear hbb3 hb3 HW;go_wp2_with fail
   go_roundg (n-(k+1))
   case measure=>omega
   case rel=>exact⟨k+1,by go_num,by omega,by omega,H3⟩
  ·obtain rfl:k=n:=by omega
   have h9:=H.out;rw[List.take_of_length_le (by rw[HLN.out];omega)] at h9;have HS:=Lib.hid (Tryz.Builder_String_any w.heap.size w.heap.size _ wr h9.1 h9.2.size);have HB2:=Lib.hid h9.2;clear h9 H;go_wp2_with fail
   refine HS.out.mono ?_;rintro e5 w5 ⟨rfl,hb5⟩;have HB5:=Lib.hid (HB2.out.trans hb5);clear hb5;go_wp2_with fail
   go_ret2
   exact⟨rfl,HB5.out⟩
end Hd
end Go.Proofs.YtphfmgapiimliaaGreat
namespace Go.Proofs.YtphfmgapiimliaaGreat
namespace Hd
open Go.RowKit Vi Bd Rd
def hb (i g f:Nat):ByteArray:=⟨(putV i++(putV g++putV f)).toArray⟩
set_option maxHeartbeats 3200000 in
set_option maxRecDepth 100000 in
theorem hput_yes (i g f:Nat) (w:World) (h:1<=i/\i<=999999/\1<=g/\g<=999999/\1<=f/\f<=1000000000) :
  Calls Tryz.prog 102 #[.agg #[.int .i64 (i:Int),.int .i64 (g:Int),.int .i64 (f:Int)]] w fun e w'=>e=.returned (.tuple #[.string (hb i g f),.int .i64 0])/\Below w.heap.size w w':=by
 have mixed:Tryz.prog.follows .mixedOrders=true:=by kernel_rfl
 have HC:=Lib.hid (check_yes i g f (w.alloc (.cells #[.int .i64 (i:Int),.int .i64 (g:Int),.int .i64 (f:Int)] 35)) (by omega));have HB:=Lib.hid (ext_alloc w (.cells #[.int .i64 (i:Int),.int .i64 (g:Int),.int .i64 (f:Int)] 35));have HN:=Lib.hid (show ∀x∈ [i,g,f],x<9223372036854775808 by intro x hx;simp at hx;omega);have k0:(w.alloc (.cells #[.int .i64 (i:Int),.int .i64 (g:Int),.int .i64 (f:Int)] 35)).cell? ⟨w.heap.size,0,none⟩=some (.int .i64 (i:Int)):=by rw[World.cell?_alloc_new];rfl
 have k1:(w.alloc (.cells #[.int .i64 (i:Int),.int .i64 (g:Int),.int .i64 (f:Int)] 35)).cell? ⟨w.heap.size,1,none⟩=some (.int .i64 (g:Int)):=by rw[World.cell?_alloc_new];rfl
 have k2:(w.alloc (.cells #[.int .i64 (i:Int),.int .i64 (g:Int),.int .i64 (f:Int)] 35)).cell? ⟨w.heap.size,2,none⟩=some (.int .i64 (f:Int)):=by rw[World.cell?_alloc_new];rfl
 have hlt:w.heap.size<(w.alloc (.cells #[.int .i64 (i:Int),.int .i64 (g:Int),.int .i64 (f:Int)] 35)).heap.size:=by simp
 have HK:=Lib.hid (And.intro k0 (And.intro k1 (And.intro k2 hlt)));clear k0 k1 k2 hlt h
 go_enter Tryz.func102, Tryz.ntmps102
 go_wp2_with fail
 generalize w.alloc (.cells #[.int .i64 (i:Int),.int .i64 (g:Int),.int .i64 (f:Int)] 35)=w0 at *
 refine HC.out.mono ?_;rintro e1 w1 ⟨rfl,hb1⟩;have c0:=(hb1.cell (p:=⟨w.heap.size,0,none⟩) HK.out.2.2.2).trans HK.out.1;have c1:=(hb1.cell (p:=⟨w.heap.size,1,none⟩) HK.out.2.2.2).trans HK.out.2.1;have c2:=(hb1.cell (p:=⟨w.heap.size,2,none⟩) HK.out.2.2.2).trans HK.out.2.2.1;have hrd:Rd (w1.alloc (.cells #[.int .i64 (i:Int),.int .i64 (g:Int),.int .i64 (f:Int)] 3)) (w1.alloc (.cells #[.int .i64 (i:Int),.int .i64 (g:Int),.int .i64 (f:Int)] 3)).heap.size 1 (some ⟨w1.heap.size,0,none⟩) 3 (nv [i,g,f]) :=
  Rd.of_own (World.ownsRow_lit (base:=w1.heap.size) (e:=3) (size:=1) w1 #[.int .i64 (i:Int),.int .i64 (g:Int),.int .i64 (f:Int)] 3 (Nat.le_refl _) (by simp[maxLen]) rfl)
 have HNU:=Lib.hid (numbers_any _ 3 3 [i,g,f] _ hrd (by omega) HN.out);have HB1:=Lib.hid (HB.out.trans (hb1.mono HB.out.size));have HB2:=Lib.hid (HB1.out.trans ((ext_alloc w1 (.cells #[.int .i64 (i:Int),.int .i64 (g:Int),.int .i64 (f:Int)] 3)).mono HB1.out.size));clear hb1 hrd HC;go_wp2_with fail
 refine HNU.out.mono ?_;rintro e2 w2 ⟨rfl,hb2⟩;have HB3:=Lib.hid (HB2.out.trans (hb2.mono HB2.out.size));clear hb2;go_wp2_with fail
 go_ret2
 exact⟨rfl,HB3.out⟩
set_option maxHeartbeats 3200000 in
set_option maxRecDepth 100000 in
theorem hput_no (i g f:Int) (w:World) (h:okH i g f=false) :
  Calls Tryz.prog 102 #[.agg #[.int .i64 i,.int .i64 g,.int .i64 f]] w fun e w'=>e=.returned (.tuple #[.string ⟨#[]⟩,.int .i64 210])/\Below w.heap.size w w':=by
 have mixed:Tryz.prog.follows .mixedOrders=true:=by kernel_rfl
 have hc:=check_any i g f (w.alloc (.cells #[.int .i64 i,.int .i64 g,.int .i64 f] 35));rw[if_neg (by rw[h];simp)] at hc;have HC:=Lib.hid hc;have HB:=Lib.hid (ext_alloc w (.cells #[.int .i64 i,.int .i64 g,.int .i64 f] 35));clear hc h
 go_enter Tryz.func102, Tryz.ntmps102
 go_wp2_with fail
 refine HC.out.mono ?_;rintro e1 w1 ⟨rfl,hb1⟩;have HB1:=Lib.hid (HB.out.trans (hb1.mono HB.out.size));clear hb1 HC;go_wp2_with fail
 go_ret2
 exact⟨rfl,HB1.out⟩
end Hd
end Go.Proofs.YtphfmgapiimliaaGreat
