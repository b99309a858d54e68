/- bits.Reader: Left, Get, noughts. bits.Reader: Gamma, Done, NewReader. canon.Code: ended, Get. -/
import Derived.Test.YtjligbmickfbdaaGreatBe35
import Derived.Test.YtjligbmickfbdaaGreatBe14
namespace Go.Proofs.YtjligbmickfbdaaGreat
namespace Bt
open Go.RowKit
theorem Frm.drewN {w w':World} {b:Nat} {g:Option Nat} (h:Frm w w' b g) (m:Nat):Frm w (w'.drewN m) b g:=⟨h.os,h.tape,h.output,h.size,h.blk⟩
set_option maxHeartbeats 1600000 in
set_option maxRecDepth 100000 in
theorem left_any (w:World) (b p:Nat) (s:ByteArray) (h:RdS w b s p) (hs:s.size<=1000000) (hp:p<=8*s.size) :
  Calls Tryz.prog 115 #[.pointer (some ⟨b,0,none⟩)] w fun e w'=>e=.returned (.int .i64 ((8*s.size-p:Nat):Int))/\ ∃m,w'=w.drewN m:=by
 have mixed:Tryz.prog.follows .mixedOrders=true:=by kernel_rfl
 have hc0:=h.c0;have hc1:=h.c1;clear h
 go_enter Tryz.func115, Tryz.ntmps115
 go_wp2_with fail
 go_quiet (fail)
 go_wp2
 go_ret
 exact⟨ret_int (by omega),_,rfl⟩
set_option maxHeartbeats 1600000 in
set_option maxRecDepth 100000 in
theorem rget_any (w:World) (b p wd:Nat) (s:ByteArray) (h:RdS w b s p) (hs:s.size<=1000000) (hp:p<=8*s.size) (h1:1<=wd) (hwd:wd<=32) :
  Calls Tryz.prog 111 #[.pointer (some ⟨b,0,none⟩),.int .i64 (wd:Int)] w fun e w' =>
   if p+wd<=8*s.size then e=.returned (.tuple #[.int .i64 (bnum s p wd:Int),.int .i64 0])/\RdS w' b s (p+wd)/\Frm w w' b none else e=.returned (.tuple #[.int .i64 0,.int .i64 4])/\ ∃m,w'=w.drewN m:=by
 have hleft:=left_any w b p s h hs hp;have HL:=Lib.hid hleft;have hc0:=h.c0;have hc1:=h.c1;have hf1:=h.fz 1;have HR:Aside (RdS w b s p):=h;have HPK:Hid (p+wd<=8*s.size-> ∀w',RdS w' b s (p+wd)->Calls Tryz.prog 141 #[.pointer (some ⟨b,0,none⟩),.int .i64 (p:Int),.int .i64 (wd:Int)] w' fun e w''=>e=.returned (.int .i64 (bnum s p wd:Int))/\ ∃m,w''=w'.drewN m) :=
  fun hh w' h'=>peek_any w' b (p+wd) p wd s h' hs hh (by omega)
 clear h hleft;by_cases hle:p+wd<=8*s.size
 ·simp only[if_pos hle]
  have hb:wd<=8*s.size-p:=by omega
  go_enter Tryz.func111, Tryz.ntmps111
  go_wp2_with fail
  refine HL.out.mono ?_;rintro e1 w1 ⟨rfl,m,rfl⟩;obtain⟨z,hz⟩:∃z,z=8*s.size-p:=⟨_,rfl⟩
  rw[<-hz] at hb ⊢;clear hz;go_wp2_with fail
  have hR2:RdS ((w.drewN m).setCell ⟨b,1,none⟩ (.int .i64 ((p:Int)+(wd:Int)))) b s (p+wd):=by
   have:=(HR.out.drewN m).set1 (p+wd)
   rwa [Int.natCast_add] at this
  have HR2:Aside _:=hR2;have HF2:Aside (Frm w ((w.drewN m).setCell ⟨b,1,none⟩ (.int .i64 ((p:Int)+(wd:Int)))) b none):=((Frm.refl w b none).drewN m).set 1 _;refine(HPK.out hle _ hR2).mono ?_;rintro e2 w2 ⟨rfl,m2,rfl⟩;clear hR2;go_wp2_with fail
  go_ret2
  exact⟨rfl,HR2.out,HF2.out.drewN m2⟩
 ·simp only[if_neg hle]
  have hb:8*s.size-p<wd:=by omega
  go_enter Tryz.func111, Tryz.ntmps111
  go_wp2_with fail
  refine HL.out.mono ?_;rintro e1 w1 ⟨rfl,m,rfl⟩;obtain⟨z,hz⟩:∃z,z=8*s.size-p:=⟨_,rfl⟩
  rw[<-hz] at hb ⊢;clear hz;go_wp2_with fail
  go_ret2
  exact⟨rfl,m,rfl⟩
def rem (s:ByteArray) (p:Nat):List Bool:=(bits s.data.toList).drop p
theorem length_rem (s:ByteArray) (p:Nat):(rem s p).length=8*s.size-p:=by
 unfold rem;rw[List.length_drop,length_bits];rfl
theorem bnum_one (s:ByteArray) (p:Nat) (h:p<8*s.size):∃x,(rem s p).take 1=[x]/\bnum s p 1=x.toNat:=by
 have hl:((rem s p).take 1).length=1:=by rw[List.length_take,length_rem];omega
 obtain⟨x,hx⟩:=List.length_eq_one_iff.1 hl;refine⟨x,hx,?_⟩;unfold bnum;rw[show((bits s.data.toList).drop p).take 1=[x] from hx];cases x<;>rfl
theorem nz_is (l:List Bool) (k:Nat) (h:l.take k=List.replicate k false) (hk:l.length=k∨ ∃r,l.drop k=true::r):nz l=k:=by
 rw[<-List.take_append_drop k l,h,nz_replicate];rcases hk with hk|⟨r,hr⟩
 ·rw[List.drop_of_length_le (by omega)];rfl
 ·rw[hr,nz_true];rfl
set_option maxHeartbeats 1600000 in
set_option maxRecDepth 100000 in
theorem noughts_any (w:World) (b p:Nat) (s:ByteArray) (h:RdS w b s p) (hs:s.size<=1000000) (hp:p<=8*s.size) :
  Calls Tryz.prog 116 #[.pointer (some ⟨b,0,none⟩),.int .i64 ((8*s.size-p:Nat):Int)] w fun e w'=>e=.returned (.int .i64 (nz (rem s p):Int))/\ ∃m,w'=w.drewN m:=by
 have hc1:=h.c1;obtain⟨z,hz⟩:∃z,z=8*s.size-p:=⟨_,rfl⟩
 have HPK:Hid (∀m k,k<z->Calls Tryz.prog 141 #[.pointer (some ⟨b,0,none⟩),.int .i64 ((p:Int)+(k:Int)),.int .i64 1] (w.drewN m) fun e w''=>e=.returned (.int .i64 (bnum s (p+k) 1:Int))/\ ∃m2,w''=w.drewN m2):=by
  intro m k hk;have:=peek_any (w.drewN m) b p (p+k) 1 s (h.drewN m) hs (by omega) (by omega);rw[Int.natCast_add] at this;refine this.mono ?_;rintro e w' ⟨he,m2,rfl⟩;exact⟨he,m+m2,by rw[World.drewN_drewN]⟩
 have HZ:=Lib.hid hz;have hzb:z<=8000000:=by omega
 have hpb:p<=8000000:=by omega
 rw[<-hz];clear h hz hp
 go_enter Tryz.func116, Tryz.ntmps116
 go_wp2_with fail
 go_loopg [5] z (fun kx s5 wr=>∃(k m:Nat),s5=.int .i64 (k:Int)/\k<=z/\z-k<=kx/\Hid ((rem s p).take k=List.replicate k false)/\wr=w.drewN m)
 case atStart=>exact⟨0,0,rfl,by omega,by omega,rfl,rfl⟩
 case round =>
  obtain⟨k,m,rfl,hk,hkx,heq,rfl⟩:=hrel;by_cases hlt:k<z
  ·obtain⟨x,hx1,hx2⟩:=bnum_one s (p+k) (by have:=HZ.out;omega)
   have hdr:(rem s p).drop k=rem s (p+k):=by unfold rem;rw[List.drop_drop]
   have hpk:=HPK.out m k hlt;rw[hx2] at hpk;have HPP:=Lib.hid hpk;cases x
   ·have hn:(rem s p).take (k+1)=List.replicate (k+1) false:=by
     rw[List.take_add,heq.out,hdr,hx1,List.replicate_succ']
    have HN:=Lib.hid hn;clear hx1 hx2 hdr hpk hn;go_wp2_with fail
    refine HPP.out.mono ?_;rintro e1 w1 ⟨rfl,m1,rfl⟩;go_wp2_with fail
    go_roundg (z-(k+1))
    case measure=>omega
    case rel=>exact⟨k+1,_,by go_num,by omega,by omega,HN.out,rfl⟩
   ·have hn:nz (rem s p)=k:=by
     refine nz_is _ k heq.out (.inr ⟨(rem s (p+k)).drop 1,?_⟩);rw[hdr]
     conv=>lhs;rw[<-List.take_append_drop 1 (rem s (p+k)),hx1]
     rfl
    have HN:=Lib.hid hn;clear hx1 hx2 hdr hpk hn;go_wp2_with fail
    refine HPP.out.mono ?_;rintro e1 w1 ⟨rfl,m1,rfl⟩;go_wp2_with fail
    go_ret
    rw[HN.out];exact⟨rfl,_,rfl⟩
  ·have hn:nz (rem s p)=k:=nz_is _ k heq.out (.inl (by rw[length_rem];have:=HZ.out;omega))
   have HN:=Lib.hid hn;clear hn;go_wp2_with fail
   go_ret
   rw[HN.out];exact⟨rfl,_,rfl⟩
end Bt
end Go.Proofs.YtjligbmickfbdaaGreat
namespace Go.Proofs.YtjligbmickfbdaaGreat
namespace Bt
open Go.RowKit
set_option maxHeartbeats 1600000 in
set_option maxRecDepth 100000 in
theorem done_any (w:World) (b p:Nat) (s:ByteArray) (h:RdS w b s p) (hs:s.size<=1000000) (hp:p<=8*s.size) :
  Calls Tryz.prog 80 #[.pointer (some ⟨b,0,none⟩)] w fun e w'=>e=.returned (.bool (doneB (rem s p)))/\ ∃m,w'=w.drewN m:=by
 have hleft:=left_any w b p s h hs hp;have hn:=fun m=>noughts_any (w.drewN m) b p s (h.drewN m) hs hp
 have hd:doneB (rem s p)=(decide (8*s.size-p=0)||(decide (8*s.size-p<8)&&decide (nz (rem s p)=8*s.size-p))):=by
  unfold doneB;rw[length_rem]
 have hnz:=nz_le (rem s p);rw[length_rem] at hnz;obtain⟨z,hz⟩:∃z,z=8*s.size-p:=⟨_,rfl⟩
 rw[<-hz] at hleft hd hnz;simp only[<-hz] at hn;have hzb:z<=8000000:=by omega
 have HL:=Lib.hid hleft;have HN:=Lib.hid hn;have HD:=Lib.hid hd;generalize nz (rem s p)=q at *
 clear h hleft hn hd hz hp;by_cases h0:z=0
 ·subst h0
  go_enter Tryz.func80, Tryz.ntmps80
  go_wp2_with fail
  refine HL.out.mono ?_;rintro e1 w1 ⟨rfl,m,rfl⟩;go_wp2_with fail
  go_ret
  rw[HD.out];exact⟨rfl,m,rfl⟩
 have c0:((z:Int)==0)=false:=by rw[beq_eq_false_iff_ne];omega
 by_cases h8:z<8
 ·have hq:((q:Int)==(z:Int))=decide (q=z):=by
   by_cases hqz:q=z
   ·subst hqz;simp
   ·rw[decide_eq_false hqz,beq_eq_false_iff_ne];omega
  go_enter Tryz.func80, Tryz.ntmps80
  go_wp2_with fail
  refine HL.out.mono ?_;rintro e1 w1 ⟨rfl,m,rfl⟩;go_wp2_with fail
  refine(HN.out m).mono ?_;rintro e2 w2 ⟨rfl,m2,rfl⟩;go_wp2_with fail
  go_ret
  rw[HD.out,decide_eq_false h0,decide_eq_true h8,Bool.false_or,Bool.true_and];exact⟨rfl,m+m2,rfl⟩
 ·go_enter Tryz.func80, Tryz.ntmps80
  go_wp2_with fail
  refine HL.out.mono ?_;rintro e1 w1 ⟨rfl,m,rfl⟩;go_wp2_with fail
  go_ret
  rw[HD.out,decide_eq_false h0,decide_eq_false h8];exact⟨rfl,m,rfl⟩
set_option maxHeartbeats 1600000 in
set_option maxRecDepth 100000 in
theorem newReader_any (w:World) (s:ByteArray) :
  Calls Tryz.prog 77 #[.string s] w fun e w'=>e=.returned (.pointer (some ⟨w.heap.size,0,none⟩))/\RdS w' w.heap.size s 0/\Below w.heap.size w w':=by
 go_enter Tryz.func77, Tryz.ntmps77
 go_wp2_with fail
 go_ret
 exact⟨rfl,heap_alloc_new w _,ext_alloc w _⟩
theorem getGam_rem (s:ByteArray) (p:Nat) (h0: ¬ 8*s.size-p=0) (h1: ¬ nz (rem s p)=8*s.size-p) (h2: ¬ 32<=nz (rem s p)) (h3: ¬ 8*s.size-p<2*nz (rem s p)+1) :
  getGam (rem s p)=(0,bnum s (p+nz (rem s p)) (nz (rem s p)+1),rem s (p+(2*nz (rem s p)+1))):=by
 unfold getGam;rw[length_rem,if_neg h0,if_neg h1,if_neg h2,if_neg h3];unfold bnum rem;rw[List.drop_drop,List.drop_drop]
set_option maxHeartbeats 3200000 in
set_option maxRecDepth 100000 in
theorem rgamma_any (w:World) (b p:Nat) (s:ByteArray) (h:RdS w b s p) (hs:s.size<=1000000) (hp:p<=8*s.size) :
  Calls Tryz.prog 112 #[.pointer (some ⟨b,0,none⟩)] w fun e w'=>e=.returned (.tuple #[.int .i64 ((getGam (rem s p)).2.1:Int),.int .i64 (getGam (rem s p)).1]) /\
   (((getGam (rem s p)).1≠0/\ ∃m,w'=w.drewN m)∨((getGam (rem s p)).1=0/\RdS w' b s (p+(2*nz (rem s p)+1))/\(getGam (rem s p)).2.2=rem s (p+(2*nz (rem s p)+1))/\p+(2*nz (rem s p)+1)<=8*s.size/\Frm w w' b none)):=by
 have hleft:=left_any w b p s h hs hp;have hn:=fun m=>noughts_any (w.drewN m) b p s (h.drewN m) hs hp
 have hnz:=nz_le (rem s p);have hll:=length_rem s p;have hgr:=getGam_rem s p;have hc1:=h.c1;have hf1:=h.fz 1;rw[length_rem] at hnz;obtain⟨z,hz⟩:∃z,z=8*s.size-p:=⟨_,rfl⟩
 rw[<-hz] at hleft hnz hll hgr;simp only[<-hz] at hn;obtain⟨q,hq⟩:∃q,q=nz (rem s p):=⟨_,rfl⟩
 have hpk:∀m,q<32->2*q+1<=z->Calls Tryz.prog 141 #[.pointer (some ⟨b,0,none⟩),.int .i64 ((p:Int)+(q:Int)),.int .i64 ((q:Int)+1)] (w.drewN m) fun e w''=>e=.returned (.int .i64 (bnum s (p+q) (q+1):Int))/\ ∃m2,w''=w.drewN (m+m2):=by
  intro m h1 h2;have:=peek_any (w.drewN m) b p (p+q) (q+1) s (h.drewN m) hs (by omega) (by omega);rw[Int.natCast_add,Int.natCast_add] at this;refine this.mono ?_;rintro e w' ⟨he,m2,rfl⟩;exact⟨he,m2,by rw[World.drewN_drewN]⟩
 have hgd:getGam (rem s p)=if z=0 then(4,0,rem s p) else if q=z then(4,0,rem s p) else if 32<=q then(40,0,rem s p) else if z<2*q+1 then(4,0,rem s p) else(0,bnum s (p+q) (q+1),rem s (p+(2*q+1))):=by
  by_cases g0:z=0
  ·rw[if_pos g0];unfold getGam;rw[hll,if_pos g0]
  by_cases g1:q=z
  ·rw[if_neg g0,if_pos g1];unfold getGam;rw[hll,if_neg g0,if_pos (hq▸g1)]
  by_cases g2:32<=q
  ·rw[if_neg g0,if_neg g1,if_pos g2];unfold getGam;rw[hll,if_neg g0,if_neg (hq▸g1),if_pos (hq▸g2)]
  by_cases g3:z<2*q+1
  ·rw[if_neg g0,if_neg g1,if_neg g2,if_pos g3];unfold getGam;rw[hll,if_neg g0,if_neg (hq▸g1),if_neg (hq▸g2),if_pos (hq▸g3)]
  ·rw[if_neg g0,if_neg g1,if_neg g2,if_neg g3,hgr g0 (hq▸g1) (hq▸g2) (hq▸g3),<-hq]
 rw[<-hq] at hnz ⊢;simp only[<-hq] at hn;have HPK:=Lib.hid hpk;have HRD:Aside (RdS w b s p):=h;have HZ:=Lib.hid hz;have HL:=Lib.hid hleft;have HN:=Lib.hid hn;have HG:=Lib.hid hgd;generalize getGam (rem s p)=GG at *
 have hzb:z<=8000000:=by omega
 have hpb:p<=8000000:=by omega
 clear h hleft hn hgd hgr hll hpk hz hq;by_cases g0:z=0
 ·have hG:=HG.out
  rw[if_pos g0] at hG;subst hG;subst g0
  go_enter Tryz.func112, Tryz.ntmps112
  go_wp2_with fail
  refine HL.out.mono ?_;rintro e1 w1 ⟨rfl,m,rfl⟩;go_wp2_with fail
  go_ret2
  exact⟨rfl,.inl ⟨by decide,m,rfl⟩⟩
 have c0:((z:Int)==0)=false:=by rw[beq_eq_false_iff_ne];omega
 by_cases g1:q=z
 ·have hG:=HG.out
  rw[if_neg g0,if_pos g1] at hG;subst hG;subst g1
  go_enter Tryz.func112, Tryz.ntmps112
  go_wp2_with fail
  refine HL.out.mono ?_;rintro e1 w1 ⟨rfl,m,rfl⟩;go_wp2_with fail
  refine(HN.out m).mono ?_;rintro e2 w2 ⟨rfl,m2,rfl⟩;go_wp2_with fail
  go_ret2
  exact⟨rfl,.inl ⟨by decide,m+m2,rfl⟩⟩
 have c1:((q:Int)==(z:Int))=false:=by rw[beq_eq_false_iff_ne];omega
 by_cases g2:32<=q
 ·have hG:=HG.out
  rw[if_neg g0,if_neg g1,if_pos g2] at hG;subst hG
  go_enter Tryz.func112, Tryz.ntmps112
  go_wp2_with fail
  refine HL.out.mono ?_;rintro e1 w1 ⟨rfl,m,rfl⟩;go_wp2_with fail
  refine(HN.out m).mono ?_;rintro e2 w2 ⟨rfl,m2,rfl⟩;go_wp2_with fail
  go_ret2
  exact⟨rfl,.inl ⟨by decide,m+m2,rfl⟩⟩
 by_cases g3:z<2*q+1
 ·have hG:=HG.out
  rw[if_neg g0,if_neg g1,if_neg g2,if_pos g3] at hG;subst hG
  go_enter Tryz.func112, Tryz.ntmps112
  go_wp2_with fail
  refine HL.out.mono ?_;rintro e1 w1 ⟨rfl,m,rfl⟩;go_wp2_with fail
  refine(HN.out m).mono ?_;rintro e2 w2 ⟨rfl,m2,rfl⟩;go_wp2_with fail
  go_ret2
  exact⟨rfl,.inl ⟨by decide,m+m2,rfl⟩⟩
 ·have hG:=HG.out
  rw[if_neg g0,if_neg g1,if_neg g2,if_neg g3] at hG;have HGG:=Lib.hid hG;clear hG
  go_enter Tryz.func112, Tryz.ntmps112
  go_wp2_with fail
  refine HL.out.mono ?_;rintro e1 w1 ⟨rfl,m,rfl⟩;go_wp2_with fail
  refine(HN.out m).mono ?_;rintro e2 w2 ⟨rfl,m2,rfl⟩;go_wp2_with fail
  refine(HPK.out (m+m2) (by omega) (by omega)).mono ?_;rintro e3 w3 ⟨rfl,m3,rfl⟩;have hR2:∀k,RdS ((w.drewN k).setCell ⟨b,1,none⟩ (.int .i64 ((p:Int)+(2*(q:Int)+1)))) b s (p+(2*q+1)):=by
   intro k;have:=(HRD.out.drewN k).set1 (p+(2*q+1))
   rwa [show((p+(2*q+1):Nat):Int)=(p:Int)+(2*(q:Int)+1) by omega] at this
  have HR2:=Lib.hid hR2;have HF2:Hid (∀k,Frm w ((w.drewN k).setCell ⟨b,1,none⟩ (.int .i64 ((p:Int)+(2*(q:Int)+1)))) b none):=fun k=>((Frm.refl w b none).drewN k).set 1 _
  clear hR2;go_wp2_with fail
  go_ret2
  rw[HGG.out];exact⟨rfl,.inr ⟨rfl,HR2.out _,rfl,by have:=HZ.out;omega,HF2.out _⟩⟩
end Bt
end Go.Proofs.YtjligbmickfbdaaGreat
namespace Go.Proofs.YtjligbmickfbdaaGreat
namespace Cn
open Go.RowKit
theorem Cd.drewN {w:World} {b:Nat} {l:List Int} (h:Cd w b l) (m:Nat):Cd (w.drewN m) b l:=h.ext (below_drewN (Below.refl _ _) m)
set_option maxHeartbeats 6400000 in
set_option maxRecDepth 100000 in
theorem ended_any (w:World) (b n wd:Nat) (l:List Int) (h:Cd w b l) (_hn:n<=1000000) (hwd:wd<=15) :
  Calls Tryz.prog 113 #[.pointer (some ⟨b,0,none⟩),.int .i64 (n:Int),.int .i64 (wd:Int)] w fun e w'=>(∃x,e=.returned (.int .i64 x)/\x≠0)/\ ∃m,w'=w.drewN m:=by
 have mixed:Tryz.prog.follows .mixedOrders=true:=by kernel_rfl
 have H:Aside (Cd w b l):=h;clear h
 go_enter Tryz.func113, Tryz.ntmps113
 go_wp2_with fail
 go_loopg [7] 16 (fun kx s7 wr=>∃(d m:Nat),s7=.int .i64 ((wd+d:Nat):Int)/\wd+d<=16/\16-(wd+d)<=kx/\wr=w.drewN m)
 case atStart=>exact⟨0,0,by simp,by omega,by omega,rfl⟩
 case round =>
  obtain⟨d,m,rfl,hd,hkx,rfl⟩:=hrel;by_cases hlt:wd+d<=15
  ·have hcn:=H.out.cnt (wd+d) hlt
   have hfs:=H.out.fst (wd+d) hlt;obtain⟨k,hk⟩:∃k,k=wd+d:=⟨_,rfl⟩
   rw[<-hk] at hcn hfs hlt hd hkx ⊢;have e1:(k:Int)-(wd:Int)=(d:Int):=by omega
   have HK:=Lib.hid hk;clear hk H;go_wp2_with fail
   go_region
   go_wp2_with fail
   obtain⟨lo,hlo⟩:∃lo,lo=RowKit.wrap64 ((n:Int)*2^d):=⟨_,rfl⟩
   rw[<-hlo];obtain⟨hi,hhi⟩:∃hi,hi=Go.bits .or .i64 lo (RowKit.wrap64 (RowKit.wrap64 (2^d)-1)):=⟨_,rfl⟩
   rw[<-hhi];clear hlo hhi e1;generalize cn l k=c at *
   generalize fs l k=f at *
   by_cases h0:0<k
   ·have h0i:(0:Int)<(k:Int):=by omega
    have hk16:(k:Int)<16:=by omega
    have hkt:((k:Int)).toNat=k:=by omega
    by_cases h1:0<c
    ·have h1i:(0:Int)<(c:Int):=by omega
     by_cases h2:lo<RowKit.wrap64 ((f:Int)+(c:Int))
     ·by_cases h3:(f:Int)<=hi
      ·skip
       go_quiet (fail)
       go_wp2_with fail
       go_ret
       exact⟨⟨4,rfl,by decide⟩,m+1+nq,by show((w.drewN m).drewN 1).drewN nq=_;rw[World.drewN_drewN,World.drewN_drewN,Nat.add_assoc]⟩
      ·skip
       go_quiet (fail)
       go_wp2_with fail
       go_roundg (16-(k+1))
       case measure=>omega
       case rel=>exact⟨d+1,_,by have:=HK.out;go_num,by have:=HK.out;omega,by have:=HK.out;omega,by first|rfl|trivial⟩
     ·skip
      go_quiet (fail)
      go_wp2_with fail
      go_roundg (16-(k+1))
      case measure=>omega
      case rel=>exact⟨d+1,_,by have:=HK.out;go_num,by have:=HK.out;omega,by have:=HK.out;omega,by first|rfl|trivial⟩
    ·obtain rfl:c=0:=by omega
     go_quiet (fail)
     go_wp2_with fail
     go_roundg (16-(k+1))
     case measure=>omega
     case rel=>exact⟨d+1,_,by have:=HK.out;go_num,by have:=HK.out;omega,by have:=HK.out;omega,by first|rfl|trivial⟩
   ·obtain rfl:k=0:=by omega
    go_quiet (fail)
    go_wp2_with fail
    go_roundg (16-(0+1))
    case measure=>omega
    case rel=>exact⟨d+1,_,by have:=HK.out;go_num,by have:=HK.out;omega,by have:=HK.out;omega,by first|rfl|trivial⟩
  ·have e16:wd+d=16:=by omega
   have h15: ¬ ((wd+d:Nat):Int)<=15:=by omega
   obtain⟨k,hk⟩:∃k,k=wd+d:=⟨_,rfl⟩
   rw[<-hk] at h15 ⊢;clear hk e16 hlt;by_cases h0:wd=0
   ·subst h0
    go_wp2_with fail
    go_ret
    exact⟨⟨4,rfl,by decide⟩,_,rfl⟩
   ·have h0':((wd:Int)==0)=false:=by rw[beq_eq_false_iff_ne];omega
    go_wp2_with fail
    go_ret
    exact⟨⟨40,rfl,by decide⟩,_,rfl⟩
end Cn
end Go.Proofs.YtjligbmickfbdaaGreat
