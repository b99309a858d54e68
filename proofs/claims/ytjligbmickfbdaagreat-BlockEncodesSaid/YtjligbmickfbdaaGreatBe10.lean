/- suffix.doubled's and suffix.Array's closures. Ranks along a row, and doubling: plain lists, no program. -/
import Derived.Test.YtjligbmickfbdaaGreatBe09
namespace Go.Proofs.YtjligbmickfbdaaGreat
namespace Sx
open Go.RowKit
set_option maxHeartbeats 1600000 in
set_option maxRecDepth 100000 in
theorem first_any (b4:Nat) (A:Option Addr) (n c:Nat) (R:List Nat) (w:World) (hv:Var w b4 28 (.slice A n c)) (hrd:Rd w w.heap.size 1 A n ((ints R).map (Value.int .i64))) (p:Nat) (hp:p<n) :
  Calls Tryz.prog 139 #[.int .i64 (p:Int),.pointer (some ⟨b4,0,none⟩)] w fun e w'=>e=.returned (.int .i64 ((R.getD p 0:Nat):Int))/\w=w':=by
 have hc:=hv.cell;have hln:R.length=n:=by have:=hrd.len;rw[List.length_map,length_ints] at this;omega
 obtain⟨ad,x,rfl,had,hx,hcell⟩:=hrd.int1 hp;rw[ints_at R p (by omega),Option.some.injEq] at hx;subst hx;generalize R.getD p 0=r at hcell ⊢;clear hv hrd hln
 go_enter Tryz.func139, Tryz.ntmps139
 go_wp2
 go_ret
 exact⟨rfl,rfl⟩
set_option maxHeartbeats 1600000 in
set_option maxRecDepth 100000 in
theorem second_any (b5 b9 b4:Nat) (A:Option Addr) (n c L N:Nat) (R:List Nat) (w:World) (h5:Var w b5 3 (.int .i64 (L:Int))) (h9:Var w b9 3 (.int .i64 (N:Int))) (hv:Var w b4 28 (.slice A n c))
  (hrd:Rd w w.heap.size 1 A n ((ints R).map (Value.int .i64))) (p:Nat) (hn:N<=n) (hp:p<=1000000) (hL:L<=1000000) (hR:∀q,R.getD q 0<=1000000) :
  Calls Tryz.prog 138 #[.int .i64 (p:Int),.pointer (some ⟨b5,0,none⟩),.pointer (some ⟨b9,0,none⟩),.pointer (some ⟨b4,0,none⟩)] w fun e w' =>
   e=.returned (.int .i64 ((if p+L<N then R.getD (p+L) 0+1 else 0:Nat):Int))/\w=w':=by
 have hc:=hv.cell;have hc5:=h5.cell;have hc9:=h9.cell;have hln:R.length=n:=by have:=hrd.len;rw[List.length_map,length_ints] at this;omega
 by_cases hlt:p+L<N
 ·rw[if_pos hlt]
  obtain⟨ad,x,rfl,had,hx,hcell⟩:=hrd.int1 (k:=p+L) (by omega);rw[ints_at R (p+L) (by omega),Option.some.injEq] at hx;subst hx;have hr:=hR (p+L);generalize R.getD (p+L) 0=r at hcell hr ⊢;have hn2:p+L<n:=by omega
  clear hv hrd hln hR h5 h9
  go_enter Tryz.func138, Tryz.ntmps138
  go_wp2
  go_ret
  exact⟨by simp,rfl⟩
 ·rw[if_neg hlt]
  clear hv hrd hln hR h5 h9
  go_enter Tryz.func138, Tryz.ntmps138
  go_wp2
  go_ret
  exact⟨rfl,rfl⟩
def tls (s:ByteArray) (p:Nat):Nat:=tl s.data.toList p
set_option maxHeartbeats 1600000 in
set_option maxRecDepth 100000 in
theorem letter_any (b1:Nat) (s:ByteArray) (w:World) (h:Var w b1 9 (.string s)) (p:Nat) (hp:p<=s.size) (_hs:s.size<=1000000) :
  Calls Tryz.prog 97 #[.int .i64 (p:Int),.pointer (some ⟨b1,0,none⟩)] w fun e w'=>e=.returned (.int .i64 (tls s p:Int))/\w=w':=by
 have hc:=h.cell;have hl:s.data.toList.length=s.size:=rfl;by_cases hlt:p<s.size
 ·have ht:tls s p=s[p].toNat+1:=by
   unfold tls;rw[tl_lt (show p<s.data.toList.length from hlt)];rfl
  rw[ht];have hcb:=s[p].toNat_lt;have hne:p≠s.size:=by omega
  have b1':((p:Int)==(s.size:Int))=false:=by rw[beq_eq_false_iff_ne];omega
  clear h hl ht
  go_enter Tryz.func97, Tryz.ntmps97
  go_wp2
  go_ret
  exact⟨by simp,rfl⟩
 ·have ht:tls s p=0:=by unfold tls;exact tl_ge (by omega)
  have hps:p=s.size:=by omega
  rw[ht];subst hps;clear h hl ht
  go_enter Tryz.func97, Tryz.ntmps97
  go_wp2
  go_ret
  exact⟨rfl,rfl⟩
end Sx
end Go.Proofs.YtjligbmickfbdaaGreat
namespace Go.Proofs.YtjligbmickfbdaaGreat
namespace Sx
def nx (diff:Nat->Nat->Bool) (A:List Nat) (n:Nat):Nat->List Nat
 |0=>List.replicate n 0
 |j+1=>(nx diff A n j).set (A.getD (j+1) 0) ((nx diff A n j).getD (A.getD j 0) 0+if diff (A.getD j 0) (A.getD (j+1) 0)=true then 1 else 0)
theorem length_nx (diff:Nat->Nat->Bool) (A:List Nat) (n:Nat):∀j,(nx diff A n j).length=n
 |0=>by simp[nx]
 |j+1=>by rw[nx,List.length_set,length_nx diff A n j]
theorem getD_set (l:List Nat) (i x p:Nat):(l.set i x).getD p 0=if i=p/\p<l.length then x else l.getD p 0:=by
 rw[List.getD_eq_getElem?_getD,List.getD_eq_getElem?_getD];by_cases h:i=p
 ·subst h
  by_cases h2:i<l.length
  ·rw[List.getElem?_set_self h2,if_pos ⟨rfl,h2⟩];rfl
  ·rw[if_neg (by omega),List.getElem?_eq_none (by simp;omega),List.getElem?_eq_none (by omega)]
 ·rw[List.getElem?_set_ne h,if_neg (by omega)]
theorem nx_le (diff:Nat->Nat->Bool) (A:List Nat) (n:Nat):∀j p,(nx diff A n j).getD p 0<=j
 |0,p=>by
  rw[nx,List.getD_eq_getElem?_getD,List.getElem?_replicate];split<;>simp
 |j+1,p=>by
  rw[nx,getD_set];have h1:=nx_le diff A n j p;have h2:=nx_le diff A n j (A.getD j 0);split
  ·split<;>omega
  ·omega
def scd (L N:Nat) (R:List Nat) (p:Nat):Nat:=if p+L<N then R.getD (p+L) 0+1 else 0
def fst (R:List Nat) (p:Nat):Nat:=R.getD p 0
def dif (L N:Nat) (R:List Nat) (a b:Nat):Bool:=(fst R a != fst R b)||(scd L N R a != scd L N R b)
def arr2 (L N:Nat) (R arr:List Nat):List Nat:=ctd (N+1) (fst R) (ctd (N+1+1) (scd L N R) arr)
section
variable {diff:Nat->Nat->Bool} {A:List Nat} {n:Nat}
theorem nx_next (hA:∀p∈A,p<n) (j:Nat) (hj:j+1<A.length):(nx diff A n (j+1)).getD (A.getD (j+1) 0) 0=(nx diff A n j).getD (A.getD j 0) 0+if diff (A.getD j 0) (A.getD (j+1) 0)=true then 1 else 0:=by
 have hlt:A.getD (j+1) 0<n:=by
  rw[List.getD_eq_getElem?_getD,List.getElem?_eq_getElem hj];exact hA _ (List.getElem_mem _)
 rw[nx,getD_set,if_pos ⟨rfl,by rw[length_nx];exact hlt⟩]
theorem nx_keep (hn:A.Nodup) (i:Nat):∀d,i+d<A.length->(nx diff A n (i+d)).getD (A.getD i 0) 0=(nx diff A n i).getD (A.getD i 0) 0
 |0,_=>rfl
 |d+1,h=>by
  rw[show i+(d+1)=(i+d)+1 by omega,nx,getD_set,if_neg,nx_keep hn i d (by omega)];rintro ⟨e,_⟩;rw[List.getD_eq_getElem?_getD,List.getElem?_eq_getElem (show i+d+1<A.length by omega),List.getD_eq_getElem?_getD,List.getElem?_eq_getElem (show i<A.length by omega)] at e;have:=(List.getElem_inj hn).1 e;omega
theorem nx_first (hn:A.Nodup) (m:Nat) (hm:m<A.length):(nx diff A n m).getD (A.getD 0 0) 0=0:=by
 have:=nx_keep (diff:=diff) (n:=n) hn 0 m (by omega);rw[Nat.zero_add] at this;rw[this];have:=nx_le diff A n 0 (A.getD 0 0);omega
theorem nx_step (hn:A.Nodup) (hA:∀p∈A,p<n) (m i:Nat) (hi:i+1<=m) (hm:m<A.length):(nx diff A n m).getD (A.getD (i+1) 0) 0=(nx diff A n m).getD (A.getD i 0) 0+if diff (A.getD i 0) (A.getD (i+1) 0)=true then 1 else 0:=by
 have h1:=nx_keep (diff:=diff) (n:=n) hn (i+1) (m-(i+1)) (by omega);have h2:=nx_keep (diff:=diff) (n:=n) hn i (m-i) (by omega);rw[show i+1+(m-(i+1))=m by omega] at h1;rw[show i+(m-i)=m by omega] at h2;rw[h1,h2,nx_next hA i (by omega)]
end
structure Stt (s:List UInt8) (L:Nat) (arr R:List Nat):Prop where
 len:R.length=s.length+1
 rank:Rank s L arr (fun p=>R.getD p 0)
 first:R.getD (arr.getD 0 0) 0=0
 up:∀i,i+1<arr.length->R.getD (arr.getD (i+1) 0) 0<=R.getD (arr.getD i 0) 0+1/\(¬ same s L (arr.getD i 0) (arr.getD (i+1) 0)->R.getD (arr.getD (i+1) 0) 0=R.getD (arr.getD i 0) 0+1)
 le:∀p,R.getD p 0<=s.length
theorem getD_lt (l:List Nat) (i:Nat) (h:i<l.length):l.getD i 0=l[i]:=by rw[List.getD_eq_getElem?_getD,List.getElem?_eq_getElem h];rfl
theorem stt_nx {s:List UInt8} {L:Nat} {arr:List Nat} {diff:Nat->Nat->Bool} (hp:arr.Perm (List.range (s.length+1))) (hs:arr.Pairwise fun p q=> ¬ less s L q p)
  (hd:∀a b,a<=s.length->b<=s.length->(diff a b=true↔ ¬ same s L a b)):Stt s L arr (nx diff arr (s.length+1) s.length):=by
 have hl:arr.length=s.length+1:=by rw[hp.length_eq,List.length_range]
 have hn:arr.Nodup:=hp.nodup_iff.2 List.nodup_range;have hA:∀p∈arr,p<s.length+1:=fun p h=>List.mem_range.1 (hp.mem_iff.1 h)
 have hm:∀i (h:i<arr.length),arr[i]<=s.length:=fun i h=>by have:=hA _ (List.getElem_mem h);omega
 have step:=fun i (hi:i+1<arr.length)=>nx_step (diff:=diff) hn hA s.length i (by omega) (by omega)
 refine⟨length_nx _ _ _ _,ranks_tell hp hs _ ?_,nx_first hn _ (by omega),?_,fun p=>nx_le _ _ _ _ _⟩
 ·intro i hi
  have:=step i hi;rw[getD_lt arr i (by omega),getD_lt arr (i+1) hi] at this;have hdi:=hd arr[i] arr[i+1] (hm _ _) (hm _ _);refine⟨fun hsm=>?_,fun hsm=>?_⟩
  ·show(nx diff arr (s.length+1) s.length).getD arr[i+1] 0=_
   rw[this,if_neg (fun h=>(hdi.1 h) hsm)];rfl
  ·show(nx diff arr (s.length+1) s.length).getD arr[i+1] 0=_
   rw[this,if_pos (hdi.2 hsm)]
 ·intro i hi
  have:=step i hi;have hdi:=hd arr[i] arr[i+1] (hm _ _) (hm _ _);rw[getD_lt arr i (by omega),getD_lt arr (i+1) hi] at this ⊢;rw[this];refine⟨by split<;>omega,fun hsm=>by rw[if_pos (hdi.2 hsm)]⟩
theorem stt_step {s:List UInt8} {L:Nat} {arr R:List Nat} (h:Stt s L arr R):Stt s (L+L) (arr2 L (s.length+1) R arr) (nx (dif L (s.length+1) R) (arr2 L (s.length+1) R arr) (s.length+1) s.length):=by
 obtain⟨hp,hs⟩:=doubled_srt h.rank (fun p _=>h.le p);refine stt_nx hp hs ?_;intro a b ha hb;have:=pair_same h.rank ha hb;have e:dif L (s.length+1) R a b=true↔ ¬ (R.getD a 0=R.getD b 0/\snd s L (fun p=>R.getD p 0) a=snd s L (fun p=>R.getD p 0) b):=by
  unfold dif;rw[Bool.or_eq_true,bne_iff_ne,bne_iff_ne];show(R.getD a 0≠R.getD b 0∨snd s L (fun p=>R.getD p 0) a≠snd s L (fun p=>R.getD p 0) b)↔_
  constructor
  ·rintro (h|h) ⟨h1,h2⟩
   ·exact h h1
   ·exact h h2
  ·intro h
   by_cases h1:R.getD a 0=R.getD b 0
   ·exact .inr fun h2=>h ⟨h1,h2⟩
   ·exact .inl h1
 rw[e,this]
theorem stt_done {s:List UInt8} {L:Nat} {arr R:List Nat} (h:Stt s L arr R) (hd:R.getD (arr.getD s.length 0) 0=s.length):Sorted s arr:=by
 have hl:arr.length=s.length+1:=by rw[h.rank.perm.length_eq,List.length_range]
 refine sorted_of h.rank.perm (ranks_done h.rank ?_ ?_ ?_)
 ·intro hz;have:=h.first;rwa [getD_lt arr 0 hz] at this
 ·intro i hi
  have:=(h.up i hi).1
  rwa [getD_lt arr i (by omega),getD_lt arr (i+1) hi] at this
 ·intro hz;rwa [getD_lt arr _ hz] at hd
theorem stt_far {s:List UInt8} {L:Nat} {arr R:List Nat} (h:Stt s L arr R) (hL:s.length<L):R.getD (arr.getD s.length 0) 0=s.length:=by
 have hl:arr.length=s.length+1:=by rw[h.rank.perm.length_eq,List.length_range]
 have:=ranks_far h.rank (fun hz=>by have:=h.first;rwa [getD_lt arr 0 hz] at this) hL (fun i hi hsm=>by
  have:=(h.up i hi).2 (by rw[getD_lt arr i (by omega),getD_lt arr (i+1) hi];exact hsm)
  rwa [getD_lt arr i (by omega),getD_lt arr (i+1) hi] at this) (by omega)
 rwa [getD_lt arr _ (by omega)]
def difL (s:List UInt8) (a b:Nat):Bool:=tl s a != tl s b
theorem stt_first (s:List UInt8):Stt s 1 (ctd 257 (tl s) (List.range (s.length+1))) (nx (difL s) (ctd 257 (tl s) (List.range (s.length+1))) (s.length+1) s.length):=by
 obtain⟨hp,hs⟩:=first_srt s;refine stt_nx hp hs ?_;intro a b _ _;unfold difL;rw[bne_iff_ne];simp[same]
end Sx
end Go.Proofs.YtjligbmickfbdaaGreat
