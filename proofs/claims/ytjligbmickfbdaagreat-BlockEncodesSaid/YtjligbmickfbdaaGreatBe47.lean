/- squash: one byte again and again takes a few bytes: plain lists, no program. squash.Pack, Unpack as their laws use them. What the probes tell: plain lists, no program. -/
import Derived.Test.YtjligbmickfbdaaGreatBe24
import Derived.Test.YtjligbmickfbdaaGreatBe40
import Derived.Test.YtjligbmickfbdaaGreatBe46
namespace Go.Proofs.YtjligbmickfbdaaGreat
namespace Tb
open Bt
theorem stepR_le (R:List (Int×Int)) (n:Int):(stepR R n).length<=R.length+1:=by
 unfold stepR;split
 ·rename_i y k h
  split
  ·rw[List.length_append,List.length_dropLast];simp
  ·simp
 ·simp
theorem stepR_last (R:List (Int×Int)) (n:Int):∃k,(stepR R n).getLast? =some (n,k):=by
 unfold stepR;split
 ·rename_i y k h
  split
  ·rename_i e;subst e;exact⟨k+1,by simp⟩
  ·exact⟨1,by simp⟩
 ·exact⟨1,by simp⟩
theorem stepR_same (R:List (Int×Int)) (n k:Int) (h:R.getLast? =some (n,k)):(stepR R n).length<=R.length:=by
 unfold stepR;rw[h];simp only[if_true];rw[List.length_append,List.length_dropLast];rcases R with _|⟨x,r⟩
 ·simp at h
 ·simp
theorem foldl_same:∀(c:Nat) (R:List (Int×Int)) (n k:Int),R.getLast? =some (n,k)->((List.replicate c n).foldl stepR R).length<=R.length
 |0,R,n,k,h=>by simp
 |c+1,R,n,k,h=>by
  rw[List.replicate_succ,List.foldl_cons];obtain⟨k',h'⟩:=stepR_last R n;have:=foldl_same c (stepR R n) n k' h';have:=stepR_same R n k h;omega
theorem foldl_zeros (c:Nat) (R:List (Int×Int)) (n:Int):((List.replicate c n).foldl stepR R).length<=R.length+1:=by
 rcases c with _|c
 ·simp
 ·rw[List.replicate_succ,List.foldl_cons]
  obtain⟨k',h'⟩:=stepR_last R n;have:=foldl_same c (stepR R n) n k' h';have:=stepR_le R n;omega
theorem runs_few (a b y:Int) (c d:Nat):(runs (a::b::(List.replicate c 0++y::List.replicate d 0))).length<=5:=by
 unfold runs;rw[List.foldl_cons,List.foldl_cons,List.foldl_append,List.foldl_cons];have h1:=foldl_zeros d (stepR (List.foldl stepR (stepR (stepR [] a) b) (List.replicate c 0)) y) 0;have h2:=stepR_le (List.foldl stepR (stepR (stepR [] a) b) (List.replicate c 0)) y;have h3:=foldl_zeros c (stepR (stepR [] a) b) 0;have h4:=stepR_le (stepR [] a) b;have h5:=stepR_le [] a;simp only[List.length_nil] at h5;omega
theorem bl_le (n:Nat) (h:n<512):bl n<=9:=by
 rcases Nat.eq_zero_or_pos n with rfl|h0
 ·decide
 ·have:=(bl_spec n h0).1
  rcases Nat.lt_or_ge (bl n) 10 with h9|h9
  ·omega
  ·have:=Nat.pow_le_pow_right (n:=2) (by omega) (show 9<=bl n-1 by omega)
   simp only[show(2:Nat)^9=512 by rfl] at this;omega
theorem tb_le:∀(R:List (Int×Int)) (last:Int),Good last R->(flat R).length<512->(tb R).length<=21*R.length
 | [],_,_,_=>by simp[tb]
 |x::R,last,h,hl=>by
  have hx:=h.2.2.2.1;have e:tb (x::R)=(toB 4 x.1.toNat++gam x.2.toNat)++tb R:=rfl;have e2:flat (x::R)=List.replicate x.2.toNat x.1++flat R:=rfl;rw[e2,List.length_append,List.length_replicate] at hl;have ih:=tb_le R x.1 h.2.2.2.2 (by omega);have hb:=bl_le x.2.toNat (by omega);rw[e,List.length_append,List.length_append,length_toB,length_gam _ (by omega),List.length_cons];omega
end Tb
namespace Sq
open Vi Zr Hf Sx
section
variable {A:List Nat} {n:Nat} {x:UInt8}
theorem tl_rep (p:Nat):tl (List.replicate n x) p=if p<n then x.toNat+1 else 0:=by
 unfold tl;rw[List.getElem?_replicate];split<;>simp_all
theorem less_rep:∀(L p q:Nat),q<p->p<=n->n+1<=p+L->less (List.replicate n x) L p q
 |0,p,q,h1,h2,h3=>by omega
 |L+1,p,q,h1,h2,h3=>by
  simp only[less,tl_rep];by_cases hp:p<n
  ·right
   rw[if_pos hp,if_pos (by omega)];exact⟨rfl,less_rep L (p+1) (q+1) (by omega) (by omega) (by omega)⟩
  ·left
   rw[if_neg hp,if_pos (by omega)];omega
theorem pri_rep (h:Sorted (List.replicate n x) A):Bw.pri A=n:=by
 have hl:=Bw.A_len h;have hp:=Bw.pri_lt h;have hz:=(Bw.zero_iff h (Bw.pri A) hp).2 rfl;rw[List.length_replicate] at hl;have:=Bw.row_count h (Bw.pri A) hp (fun p=>decide (p≠0)) (by
  intro p hpA;have hpn:=(Bw.A_mem h p).1 hpA;rw[List.length_replicate] at hpn;rw[hz,List.length_replicate]
  constructor
  ·intro h0
   exact less_rep (n+1) p 0 (by simp at h0;omega) hpn (by omega)
  ·intro h0
   simp only[decide_eq_true_eq];rintro rfl;exact less_irrefl h0)
 rw[h.perm.countP_eq,List.length_replicate,Bw.countP_range_succ] at this;simp at this
 omega
theorem lst_rep (h:Sorted (List.replicate n x) A):Bw.lst (List.replicate n x) A=List.replicate n x:=by
 have hl:=Bw.length_lst h;rw[List.length_replicate] at hl;have hc:=Bw.count_lst h (fun c=>c==x);have h2:(List.replicate n x).countP (fun c=>c==x)=n:=by
  rw[List.countP_eq_length.2 (fun a ha=>by rw[List.eq_of_mem_replicate ha];simp),List.length_replicate]
 rw[h2] at hc;refine List.eq_replicate_iff.2 ⟨hl,fun b hb=>?_⟩;have:=List.countP_eq_length.1 (hc.trans hl.symm) b hb;simpa using this
theorem plc_head (r:List UInt8):Fr.plc x (x::r)=0:=by simp[Fr.plc]
theorem rks_rep:∀(k:Nat) (r:List UInt8),Fr.rks (x::r) (List.replicate k x)=List.replicate k 0
 |0,r=>rfl
 |k+1,r=>by
  rw[List.replicate_succ,List.replicate_succ];have e:Fr.mv (x::r) 0=x::r:=by rw[Fr.mv_some (c:=x) (by simp)];simp
  simp only[Fr.rks,plc_head,e,rks_rep k r];rfl
theorem rks_all (k:Nat):Fr.rks Fr.row0 (List.replicate (k+1) x)=(x.toNat:Int)::List.replicate k 0:=by
 obtain⟨h1,h2⟩:=Fr.plc_lt x Fr.row0 (Fr.row0_mem x);have e:Fr.plc x Fr.row0=x.toNat:=by
  have hlt:=h1;rw[Fr.length_row0] at hlt;have h3:=h2;unfold Fr.row0 at h3;rw[List.getElem?_map,List.getElem?_range (by exact hlt)] at h3;simp only[Option.map_some,Option.some.injEq] at h3;have:=congrArg UInt8.toNat h3
  change Fr.plc x Fr.row0=x.toNat
  exact(Vi.toNat_ofNat _ hlt).symm.trans this
 rw[List.replicate_succ,Fr.rks,Fr.mv_some h2,rks_rep,e]
theorem digTo_len:∀(k m:Nat),m<2^(k+1)->(digTo m).length<=k
 |0,m,h=>by rw[digTo_small (by simpa using Nat.le_of_lt_succ h)];simp
 |k+1,m,h=>by
  by_cases h1:m<=1
  ·rw[digTo_small h1];simp
  ·rw[digTo_step (by omega),List.length_cons]
   have:=digTo_len k (m/2) (by rw[Nat.pow_succ] at h;omega);omega
theorem low_len (m:Nat) (h:m<8191):(low m).length<=12:=by
 rw[low_eq,List.length_map];exact digTo_len 12 (m+1) (by simp only[show(2:Nat)^(12+1)=8192 by rfl];omega)
theorem low_mem (m:Nat) (s:Int) (h:s∈low m):s=0∨s=1:=by
 have:=List.all_eq_true.1 (low_dig m) s h;simpa[isDig] using this
theorem sy_rep (h:Sorted (List.replicate n x) A) (hn:1<=n) (hn2:n<=5000) :
  (sy (List.replicate n x) A).length<=13/\ ∃y:Nat,2<=y/\y<=256/\ ∀s∈sy (List.replicate n x) A,s=0∨s=1∨s=(y:Int):=by
 obtain⟨k,rfl⟩:∃k,n=k+1:=⟨n-1,by omega⟩
 have hx:=x.toNat_lt;unfold sy;rw[lst_rep h,rks_all];have hz:=pk_zeros k;by_cases h0:x.toNat=0
 ·have e:pk 0 (((x.toNat:Nat):Int)::List.replicate k 0)=low (1+k):=by
   have:=hz 1 [];rw[List.append_nil] at this;simp only[pk,h0,Int.natCast_zero,if_true];rw[Nat.zero_add,this];rfl
  rw[e];refine⟨Nat.le_trans (low_len _ (by omega)) (by omega),2,by omega,by omega,fun s hs=>?_⟩;rcases low_mem _ _ hs with h|h<;>simp[h]
 ·have e:pk 0 (((x.toNat:Nat):Int)::List.replicate k 0)=low 0++((x.toNat:Int)+1)::low (0+k):=by
   have:=hz 0 [];rw[List.append_nil] at this;simp only[pk];rw[if_neg (by omega),this];rfl
  have h00:low 0=[]:=List.eq_nil_of_length_eq_zero (by have:=length_low 0;omega);rw[e,h00,List.nil_append,Nat.zero_add];refine⟨by rw[List.length_cons];have:=low_len k (by omega);omega,x.toNat+1,by omega,by omega,fun s hs=>?_⟩;rcases List.mem_cons.1 hs with h|h
  ·right;right;omega
  ·rcases low_mem _ _ h with h|h<;>simp[h]
end
theorem cts_zero (syms:List Int) (hall:syms.all okS=true) (i:Nat) (hi:(i:Int)∉syms):(cts syms).getD i 0=0:=by
 have key:∀(syms:List Int) (l:List Int),syms.all okS=true->(i:Int)∉syms->l.getD i 0=0->(syms.foldl (fun l s=>incI l s.toNat) l).getD i 0=0:=by
  intro syms
  induction syms with
  |nil=>intro l _ _ h;exact h
  |cons s r ih =>
   intro l ha hm h;simp only[List.all_cons,Bool.and_eq_true] at ha;have hs:0<=s/\s<257:=by simpa[okS] using ha.1
   rw[List.mem_cons,not_or] at hm;refine ih _ ha.2 hm.2 ?_;unfold incI;rw[List.getD_eq_getElem?_getD,List.getElem?_set_ne (by omega),<-List.getD_eq_getElem?_getD];exact h
 refine key syms _ hall hi ?_;rw[List.getD_eq_getElem?_getD,List.getElem?_replicate];split<;>rfl
theorem krs (x:Int) (h:0<=x/\x<=15):(x=0/\Cn.kr x=0)∨(x=1/\Cn.kr x=16384)∨(x=2/\Cn.kr x=8192)∨(3<=x/\0<Cn.kr x/\Cn.kr x<=4096):=by
 have:x=0∨x=1∨x=2∨x=3∨x=4∨x=5∨x=6∨x=7∨x=8∨x=9∨x=10∨x=11∨x=12∨x=13∨x=14∨x=15:=by omega
 rcases this with rfl|rfl|rfl|rfl|rfl|rfl|rfl|rfl|rfl|rfl|rfl|rfl|rfl|rfl|rfl|rfl<;>decide
theorem split3 (l:List Int) (y:Nat) (hl:l.length=257) (h2:2<=y) (h3:y<=256) (h0:∀i,i≠0->i≠1->i≠y->l.getD i 0=0) :
  l=l.getD 0 0::l.getD 1 0::(List.replicate (y-2) 0++l.getD y 0::List.replicate (256-y) 0):=by
 refine List.ext_getElem? fun i=>?_
 rcases i with _|_|i
 ·rw[List.getElem?_cons_zero,List.getD_eq_getElem?_getD,List.getElem?_eq_getElem (by omega)];rfl
 ·rw[List.getElem?_cons_succ,List.getElem?_cons_zero,List.getD_eq_getElem?_getD,List.getElem?_eq_getElem (by omega)];rfl
 ·rw[List.getElem?_cons_succ,List.getElem?_cons_succ]
  rcases Nat.lt_trichotomy (i+2) y with h|h|h
  ·rw[List.getElem?_append_left (by rw[List.length_replicate];omega),List.getElem?_replicate,if_pos (by omega)]
   have:=h0 (i+2) (by omega) (by omega) (by omega);rw[List.getD_eq_getElem?_getD,List.getElem?_eq_getElem (by omega),Option.getD_some] at this;rw[List.getElem?_eq_getElem (by omega),this]
  ·rw[List.getElem?_append_right (by rw[List.length_replicate];omega),List.length_replicate,show i-(y-2)=0 by omega,List.getElem?_cons_zero,List.getD_eq_getElem?_getD,<-h,List.getElem?_eq_getElem (by omega)];rfl
  ·rw[List.getElem?_append_right (by rw[List.length_replicate];omega),List.length_replicate,show i-(y-2)=(i+2-y-1)+1 by omega,List.getElem?_cons_succ,List.getElem?_replicate]
   by_cases hi:i+2<257
   ·rw[if_pos (by omega)]
    have:=h0 (i+2) (by omega) (by omega) (by omega);rw[List.getD_eq_getElem?_getD,List.getElem?_eq_getElem (by omega),Option.getD_some] at this;rw[List.getElem?_eq_getElem (by omega),this]
   ·rw[if_neg (by omega),List.getElem?_eq_none (by omega)]
theorem enc_le (l syms:List Int) (h:∀s∈syms,(l.getD s.toNat 0).toNat<=2):(Cn.enc l syms).length<=2*syms.length:=by
 induction syms with
 |nil=>simp[Cn.enc]
 |cons s r ih =>
  have e:Cn.enc l (s::r)=Bt.toB (l.getD s.toNat 0).toNat (Cn.wd l s.toNat)++Cn.enc l r:=rfl;have:=ih (fun t ht=>h t (by simp[ht]));have:=h s (by simp);rw[e,List.length_append,Bt.length_toB,List.length_cons];omega
theorem hb_le (syms:List Int) (hall:syms.all okS=true) (y:Nat) (h2:2<=y) (h3:y<=256) (hs:∀s∈syms,s=0∨s=1∨s=(y:Int)):(hb syms).length<=105+2*syms.length:=by
 have hg:=lns_good syms;have hl:=length_lns syms;have hc:=length_cts syms;have hz:∀i,i≠0->i≠1->i≠y->(lns syms).getD i 0=0:=by
  intro i i0 i1 iy;by_cases hi:i<257
  ·have h0:=cts_zero syms hall i (by intro hm;have:=hs _ hm;omega)
   have hu:=hg.used i (by omega);rw[List.getD_eq_getElem?_getD,List.getElem?_eq_getElem (by omega),Option.getD_some] at h0;rw[h0] at hu;have h5:0<=(lns syms).getD i 0:=by
    rw[List.getD_eq_getElem?_getD,List.getElem?_eq_getElem (by omega),Option.getD_some];exact(hg.rng _ (List.getElem_mem _)).1
   omega
  ·rw[List.getD_eq_getElem?_getD,List.getElem?_eq_none (by omega)];rfl
 have hsp:=split3 (lns syms) y hl h2 h3 hz;have hr:∀i,i<257->0<=(lns syms).getD i 0/\(lns syms).getD i 0<=15:=by
  intro i hi;rw[List.getD_eq_getElem?_getD,List.getElem?_eq_getElem (by omega),Option.getD_some];exact hg.rng _ (List.getElem_mem _)
 have hsum:((lns syms).map Cn.kr).sum=Cn.kr ((lns syms).getD 0 0)+Cn.kr ((lns syms).getD 1 0)+Cn.kr ((lns syms).getD y 0):=by
  have:=congrArg (fun l=>(l.map Cn.kr).sum) hsp;simp only[List.map_cons,List.map_append,List.sum_cons,List.sum_append_nat,kr_zero] at this;omega
 have hlow:(lns syms).getD 0 0<=2/\(lns syms).getD 1 0<=2/\(lns syms).getD y 0<=2:=by
  have k0:=krs _ (hr 0 (by omega));have k1:=krs _ (hr 1 (by omega));have k2:=krs _ (hr y (by omega));by_cases hn:(St.stab Ln.wt (Ln.lv 0 (cts syms))).length<2
  ·have hone:∀i,(lns syms).getD i 0<=1:=by
    intro i;have e:(lns syms).getD i 0=(Ln.bestL (cts syms) 15).getD i 0:=rfl;rcases Ln.best_few (cts syms) 15 hn with ⟨_,h⟩|⟨j,hj,_,_,h⟩
    ·rw[e,h,List.getD_eq_getElem?_getD,List.getElem?_replicate];split<;>simp
    ·rw[e,h,List.getD_eq_getElem?_getD]
     rcases hq:((List.replicate (cts syms).length (0:Int)).set j 1)[i]? with _|z
     ·simp
     ·have:=List.mem_of_getElem? hq
      rcases List.mem_or_eq_of_mem_set this with h|h
      ·rw[List.eq_of_mem_replicate h];simp
      ·rw[h];simp
   have:=hone 0;have:=hone 1;have:=hone y;omega
  ·have hb:=(Ln.best_many (cts syms) 15 (by omega) (by omega) (by omega) (by rw[(St.stab_perm Ln.wt (Ln.lv 0 (cts syms))).length_eq];exact cts_len syms)).2
   have hb2:((lns syms).map Cn.kr).sum=32768:=hb;rw[hsum] at hb2;omega
 have ht:=Tb.runs_good (lns syms) hg.rng;have h5:(Tb.runs (lns syms)).length<=5:=by rw[hsp];exact Tb.runs_few _ _ _ _ _
 have ht2:=Tb.tb_le (Tb.runs (lns syms)) (-1) ht.1 (by rw[ht.2,hl];omega);have he:=enc_le (lns syms) syms (by
  intro s hm;rcases hs s hm with rfl|rfl|rfl
  ·exact Int.toNat_le.2 hlow.1
  ·exact Int.toNat_le.2 hlow.2.1
  ·rw[Int.toNat_natCast];exact Int.toNat_le.2 hlow.2.2)
 unfold hb;rw[List.length_append];omega
theorem putV_le2 (n:Nat) (h:n<16384):(putV n).length<=2:=by
 by_cases h1:n<128
 ·rw[putV_small h1];simp
 ·rw[putV_step h1,putV_small (by omega)];simp
theorem packed_rep {A:List Nat} {n:Nat} {x:UInt8} (h:Sorted (List.replicate n x) A) (hn:1<=n) (hn2:n<=5000):(packed (List.replicate n x) A).length<=24:=by
 obtain⟨h1,y,h2,h3,hs⟩:=sy_rep h hn hn2;have hb:=hb_le _ sy_ok y h2 h3 hs;unfold packed hbyt;rw[List.length_append,List.length_append,List.length_append,Bt.length_byt,pri_rep h,List.length_replicate];have:=putV_le2 n (by omega);rw[putV_small (n:=(sy (List.replicate n x) A).length) (by omega),List.length_singleton];omega
end Sq
end Go.Proofs.YtjligbmickfbdaaGreat
namespace Go.Proofs.YtjligbmickfbdaaGreat
namespace Sq
open Go.RowKit
theorem pack_un (s:ByteArray) (w:World) (hs:s.size<=20000) :
  Calls Tryz.prog 6 #[.string s] w fun e w'=>∃t:ByteArray,∃arr,Sx.Sorted s.data.toList arr/\t=⟨(packed s.data.toList arr).toArray⟩/\t.size<=200000/\e=.returned (.tuple #[.string t,.int .i64 0])/\Below w.heap.size w w':=by
 refine(spack_any s w hs).mono ?_;rintro e w' ⟨arr,hso,rfl,hb⟩;refine⟨_,arr,hso,rfl,?_,rfl,hb⟩;show(packed s.data.toList arr).toArray.size<=_
 rw[List.size_toArray];have h1:=sy_len hso;have h2:=pri_le hso;have hsz:s.data.toList.length=s.size:=rfl;rw[hsz] at h1 h2;have h3:=hbyt_le (sy s.data.toList arr) (by omega)
 have p1:=Vi.length_putV_le s.size 8 (by have:(128:Nat)^(8+1)=9223372036854775808:=by decide
                                         omega)
 have p2:=Vi.length_putV_le (Bw.pri arr) 8 (by have:(128:Nat)^(8+1)=9223372036854775808:=by decide
                                               omega)
 have p3:=Vi.length_putV_le (sy s.data.toList arr).length 8 (by have:(128:Nat)^(8+1)=9223372036854775808:=by decide
                                                                omega)
 unfold packed;rw[List.length_append,List.length_append,List.length_append,hsz];omega
theorem un_yes (b:ByteArray) (r:List UInt8) (w:World) (hs:b.size<=1000000) (h:unS b.data.toList=some r) :
  Calls Tryz.prog 16 #[.string b] w fun e w'=>e=.returned (.tuple #[.string ⟨r.toArray⟩,.int .i64 0])/\Below w.heap.size w w':=by
 refine(unpack_any b w hs).mono ?_;rintro e w' ⟨⟨r',hr,rfl⟩|⟨hr,_⟩,hb⟩
 ·rw[h] at hr;cases hr;exact⟨rfl,hb⟩
 ·rw[h] at hr;cases hr
theorem un_no (b:ByteArray) (w:World) (hs:b.size<=1000000) (h:unS b.data.toList=none) :
  Calls Tryz.prog 16 #[.string b] w fun e w'=>(∃x,e=.returned (.tuple #[.string ⟨#[]⟩,.int .i64 x])/\x≠0)/\Below w.heap.size w w':=by
 refine(unpack_any b w hs).mono ?_;rintro e w' ⟨⟨r',hr,_⟩|⟨_,x,rfl,hx,_⟩,hb⟩
 ·rw[h] at hr;cases hr
 ·exact⟨⟨x,rfl,hx⟩,hb⟩
theorem str_self (s:ByteArray):(⟨s.data.toList.toArray⟩:ByteArray)=s:=by
 apply ByteArray.ext
 simp
theorem cut_list (t:ByteArray) (n:Nat):(t.extract 0 n).data.toList=t.data.toList.take n:=by
 rw[ByteArray.data_extract,Array.toList_extract];simp[List.extract_eq_take_drop]
end Sq
end Go.Proofs.YtjligbmickfbdaaGreat
namespace Go.Proofs.YtjligbmickfbdaaGreat
namespace Sq
open Sx Vi Zr Hf
theorem sorted_unique {s:List UInt8} {A B:List Nat} (h:Sorted s A) (k:Sorted s B):A=B :=
 List.Perm.eq_of_pairwise (fun _ _ _ _ h1 h2=>absurd (less_trans h1 h2) less_irrefl) h.srt k.srt (h.perm.trans k.perm.symm)
instance (s:List UInt8):∀(L p q:Nat),Decidable (less s L p q)
 |0,_,_=>isFalse (fun h=>h)
 |L+1,p,q =>
  have:=instDecidableLess s L (p+1) (q+1)
  by unfold less;exact inferInstance
theorem sorted_banana:Sorted [98,97,110,97,110,97] [6,5,3,1,0,4,2]:=⟨by decide,by decide⟩
theorem sorted_nil:Sorted [] [0]:=⟨by decide,by decide⟩
theorem pri_banana:Bw.pri [6,5,3,1,0,4,2]=4:=by decide
theorem lst_banana:Bw.lst [98,97,110,97,110,97] [6,5,3,1,0,4,2]=[97,110,110,98,97,97]:=by decide
theorem rks_banana:Fr.rks Fr.row0 [97,110,110,98,97,97]=[97,110,0,99,2,0]:=by decide +kernel
theorem sy_banana:sy [98,97,110,97,110,97] [6,5,3,1,0,4,2]=[98,111,0,100,3,0]:=by
 unfold sy;rw[lst_banana,rks_banana]
 decide +kernel
theorem head_short:(head [0]).1=4:=by decide +kernel
theorem lv_zero:∀(n s:Nat),Ln.lv s (List.replicate n 0)=[]
 |0,_=>rfl
 |n+1,s=>by
  rw[List.replicate_succ];show(if(0:Int)<0 then _ else Ln.lv (s+1) (List.replicate n 0))=[]
  rw[if_neg (by decide)];exact lv_zero n (s+1)
theorem lns_nil:lns []=List.replicate 257 0:=by
 have h:cts []=List.replicate 257 0:=rfl;have h2:St.stab Ln.wt (Ln.lv 0 (cts []))=[]:=by
  rw[h,lv_zero];have:=St.stab_perm Ln.wt ([]:List Ln.Thing);exact this.eq_nil
 unfold lns Ln.bestL;rw[h2,if_pos (by decide),h,List.foldl_nil,List.length_replicate]
theorem runs_nil:Tb.runs (List.replicate 257 0)=[(0,257)]:=by decide +kernel
theorem hb_nil:hb []=Bt.bits [0,8]++[false,false,false,false,true]:=by
 unfold hb;rw[lns_nil,runs_nil]
 decide +kernel
theorem hbyt_nil:hbyt []=[0,8,8]:=by
 unfold hbyt;rw[hb_nil,Bt.byt_whole,Bt.byt_part _ (by decide) (by decide)]
 decide
theorem packed_nil:packed [] [0]=[0,0,0,0,8,8]:=by
 have h1:Bw.pri [0]=0:=by decide
 have h2:sy [] [0]=[]:=by
  have e:Bw.lst [] [0]=[]:=by decide
  unfold sy;rw[e]
  decide +kernel
 unfold packed;rw[h1,h2,hbyt_nil];have h0:putV 0=[0]:=by rw[putV_small (by omega)];rfl
 show putV 0++(putV 0++(putV 0++[0,8,8]))=_
 rw[h0];rfl
theorem un_nil:unS [0,0,0,0,8,8]=some []:=by
 have:=back sorted_nil (by decide)
 rwa [packed_nil] at this
end Sq
end Go.Proofs.YtjligbmickfbdaaGreat
