/- Suffixes in order: counting, ranks by ever longer beginnings: plain lists, no program. suffix.upto, suffix.counted. -/
import Derived.Test.YtjligbmickfbdaaGreatBe01
import Derived.Test.YtjligbmickfbdaaGreatBe03
import Derived.Deep.LoopGhost
namespace Go.Proofs.YtjligbmickfbdaaGreat
namespace Sx
def tl (s:List UInt8) (p:Nat):Nat:=match s[p]? with|some c=>c.toNat+1|none=>0
theorem tl_lt {s:List UInt8} {p:Nat} (h:p<s.length):tl s p=s[p].toNat+1:=by unfold tl;rw[List.getElem?_eq_getElem h]
theorem tl_ge {s:List UInt8} {p:Nat} (h:s.length<=p):tl s p=0:=by unfold tl;rw[List.getElem?_eq_none h]
theorem tl_le (s:List UInt8) (p:Nat):tl s p<=256:=by
 unfold tl;split
 ·rename_i c _;have:=c.toNat_lt;omega
 ·omega
def less (s:List UInt8):Nat->Nat->Nat->Prop
 |0,_,_=>False
 |L+1,p,q=>tl s p<tl s q∨(tl s p=tl s q/\less s L (p+1) (q+1))
def same (s:List UInt8):Nat->Nat->Nat->Prop
 |0,_,_=>True
 |L+1,p,q=>tl s p=tl s q/\same s L (p+1) (q+1)
section
variable {s:List UInt8}
theorem same_refl:∀(L p:Nat),same s L p p
 |0,_=>trivial
 |L+1,p=>⟨rfl,same_refl L (p+1)⟩
theorem same_symm:∀{L p q:Nat},same s L p q->same s L q p
 |0,_,_,_=>trivial
 |_+1,_,_,h=>⟨h.1.symm,same_symm h.2⟩
theorem same_trans:∀{L p q r:Nat},same s L p q->same s L q r->same s L p r
 |0,_,_,_,_,_=>trivial
 |_+1,_,_,_,h,k=>⟨h.1.trans k.1,same_trans h.2 k.2⟩
theorem less_irrefl:∀{L p:Nat},¬ less s L p p
 |0,_,h=>h
 |_+1,_,h=>by
  rcases h with h|h
  ·exact Nat.lt_irrefl _ h
  ·exact less_irrefl h.2
theorem less_trans:∀{L p q r:Nat},less s L p q->less s L q r->less s L p r
 |0,_,_,_,h,_=>h
 |L+1,p,q,r,h,k=>by
  rcases h with h|h<;>rcases k with k|k
  ·exact .inl (by omega)
  ·exact .inl (by omega)
  ·exact .inl (by omega)
  ·exact .inr ⟨by omega,less_trans h.2 k.2⟩
theorem less_same:∀{L p q r:Nat},less s L p q->same s L q r->less s L p r
 |0,_,_,_,h,_=>h
 |L+1,p,q,r,h,k=>by
  rcases h with h|h
  ·exact .inl (by have:=k.1;omega)
  ·exact .inr ⟨by have:=k.1;omega,less_same h.2 k.2⟩
theorem same_less:∀{L p q r:Nat},same s L p q->less s L q r->less s L p r
 |0,_,_,_,_,h=>h
 |L+1,p,q,r,k,h=>by
  rcases h with h|h
  ·exact .inl (by have:=k.1;omega)
  ·exact .inr ⟨by have:=k.1;omega,same_less k.2 h.2⟩
theorem tri:∀(L p q:Nat),less s L p q∨same s L p q∨less s L q p
 |0,_,_=>.inr (.inl trivial)
 |L+1,p,q=>by
  rcases Nat.lt_trichotomy (tl s p) (tl s q) with h|h|h
  ·exact .inl (.inl h)
  ·rcases tri L (p+1) (q+1) with k|k|k
   ·exact .inl (.inr ⟨h,k⟩)
   ·exact .inr (.inl ⟨h,k⟩)
   ·exact .inr (.inr (.inr ⟨h.symm,k⟩))
  ·exact .inr (.inr (.inl h))
theorem less_not_same:∀{L p q:Nat},less s L p q-> ¬ same s L p q:=fun h k=>less_irrefl (less_same h (same_symm k))
theorem less_add:∀(a b p q:Nat),less s (a+b) p q↔less s a p q∨(same s a p q/\less s b (p+a) (q+a))
 |0,b,p,q=>by simp[less,same]
 |a+1,b,p,q=>by
  rw[show a+1+b=(a+b)+1 by omega];simp only[less,same];rw[less_add a b (p+1) (q+1),show p+1+a=p+(a+1) by omega,show q+1+a=q+(a+1) by omega]
  constructor
  ·rintro (h|⟨h,h'|h'⟩)
   ·exact .inl (.inl h)
   ·exact .inl (.inr ⟨h,h'⟩)
   ·exact .inr ⟨⟨h,h'.1⟩,h'.2⟩
  ·rintro ((h|h)|h)
   ·exact .inl h
   ·exact .inr ⟨h.1,.inl h.2⟩
   ·exact .inr ⟨h.1.1,.inr ⟨h.1.2,h.2⟩⟩
theorem same_add:∀(a b p q:Nat),same s (a+b) p q↔same s a p q/\same s b (p+a) (q+a)
 |0,b,p,q=>by simp[same]
 |a+1,b,p,q=>by
  rw[show a+1+b=(a+b)+1 by omega];simp only[same];rw[same_add a b (p+1) (q+1),show p+1+a=p+(a+1) by omega,show q+1+a=q+(a+1) by omega];exact and_assoc.symm
theorem same_at:∀{L p q:Nat},same s L p q-> ∀i,i<L->tl s (p+i)=tl s (q+i)
 |L+1,p,q,h,0,_=>h.1
 |L+1,p,q,h,i+1,hi=>by
  have:=same_at h.2 i (by omega)
  rwa [show p+1+i=p+(i+1) by omega,show q+1+i=q+(i+1) by omega] at this
theorem same_end {L p q:Nat} (hp:p<=s.length) (hq:q<=s.length) (h:same s L p q) (hL:s.length<p+L∨s.length<q+L):p=q:=by
 have key:∀p q:Nat,p<=s.length->q<=s.length->same s L p q->s.length<p+L->p<=q/\ ¬ p<q:=by
  intro p q hp hq h hL;have h1:=same_at h (s.length-p) (by omega);rw[tl_ge (show s.length<=p+(s.length-p) by omega)] at h1;have h2: ¬ q+(s.length-p)<s.length:=by
   intro hlt;rw[tl_lt hlt] at h1;omega
  refine⟨by omega,fun hlt=>?_⟩;have h3:=same_at h (s.length-q) (by omega);rw[tl_ge (show s.length<=q+(s.length-q) by omega),tl_lt (show p+(s.length-q)<s.length by omega)] at h3;omega
 rcases hL with hL|hL
 ·have:=key p q hp hq h hL;omega
 ·have:=key q p hq hp (same_symm h) hL;omega
end
def ctd (m:Nat) (key:Nat->Nat) (l:List Nat):List Nat:=(List.range m).flatMap fun k=>l.filter fun p=>key p==k
theorem ctd_mem (m:Nat) (key:Nat->Nat) (l:List Nat) (x:Nat):x∈ctd m key l↔x∈l/\key x<m:=by
 simp only[ctd,List.mem_flatMap,List.mem_range,List.mem_filter,beq_iff_eq]
 constructor
 ·rintro ⟨k,hk,hx,rfl⟩;exact⟨hx,hk⟩
 ·rintro ⟨hx,hk⟩;exact⟨_,hk,hx,rfl⟩
theorem ctd_count (m:Nat) (key:Nat->Nat) (l:List Nat) (x:Nat):(ctd m key l).count x=if key x<m then l.count x else 0:=by
 unfold ctd
 induction m with
 |zero=>simp
 |succ m ih =>
  rw[List.range_succ,List.flatMap_append,List.count_append,ih];simp only[List.flatMap_cons,List.flatMap_nil,List.append_nil];by_cases h:key x=m
  ·rw[if_neg (by omega),if_pos (by omega),List.count_filter (by simpa using h)];simp
  ·have e:(l.filter fun p=>key p==m).count x=0:=List.count_eq_zero.2 (by rw[List.mem_filter];simp[h])
   rw[e];by_cases h2:key x<m
   ·rw[if_pos h2,if_pos (by omega)];rfl
   ·rw[if_neg h2,if_neg (by omega)]
theorem ctd_perm (m:Nat) (key:Nat->Nat) (l:List Nat) (h:∀x∈l,key x<m):(ctd m key l).Perm l:=by
 rw[List.perm_iff_count];intro x;rw[ctd_count];split
 ·rfl
 ·rename_i hx
  rw[List.count_eq_zero.2 (fun hm=>hx (h x hm))]
theorem ctd_pairwise (m:Nat) (key:Nat->Nat) (l:List Nat) (R:Nat->Nat->Prop) (h:l.Pairwise R) :
  (ctd m key l).Pairwise fun x y=>key x<key y∨(key x=key y/\R x y):=by
 unfold ctd
 induction m with
 |zero=>simp
 |succ m ih =>
  rw[List.range_succ,List.flatMap_append,List.pairwise_append];refine⟨ih,?_,?_⟩
  ·simp only[List.flatMap_cons,List.flatMap_nil,List.append_nil]
   have:=h.sublist (List.filter_sublist (p:=fun p=>key p==m) (l:=l));refine this.imp_of_mem ?_;intro a b ha hb hR;rw[List.mem_filter,beq_iff_eq] at ha hb;exact .inr ⟨by omega,hR⟩
  ·intro x hx y hy
   simp only[List.flatMap_cons,List.flatMap_nil,List.append_nil,List.mem_filter,beq_iff_eq] at hy;have:=((ctd_mem m key l x).1 hx).2;exact .inl (by omega)
def rkl (diff:Nat->Nat->Bool):Nat->List Nat->List Nat
 |_,[]=>[]
 |_,[_]=>[]
 |r,a::b::l=>(if diff a b then r+1 else r)::rkl diff (if diff a b then r+1 else r) (b::l)
def rks (diff:Nat->Nat->Bool) (l:List Nat):List Nat:=match l with| []=>[]|l=>0::rkl diff 0 l
structure Rank (s:List UInt8) (L:Nat) (A:List Nat) (r:Nat->Nat):Prop where
 perm:A.Perm (List.range (s.length+1))
 srt:A.Pairwise fun p q=> ¬ less s L q p
 lt:∀p q,p<=s.length->q<=s.length->(r p<r q↔less s L p q)
section
variable {s:List UInt8}
theorem Rank.eq {L:Nat} {A:List Nat} {r:Nat->Nat} (h:Rank s L A r) {p q:Nat} (hp:p<=s.length) (hq:q<=s.length):r p=r q↔same s L p q:=by
 have h1:=h.lt p q hp hq;have h2:=h.lt q p hq hp;rcases tri (s:=s) L p q with k|k|k
 ·have:=h1.2 k
  exact⟨fun e=>by omega,fun e=>absurd e (less_not_same k)⟩
 ·refine⟨fun _=>k,fun _=>?_⟩
  have n1: ¬ less s L p q:=fun hh=>less_not_same hh k
  have n2: ¬ less s L q p:=fun hh=>less_not_same hh (same_symm k)
  have:=mt h1.1 n1;have:=mt h2.1 n2;omega
 ·have:=h2.2 k
  exact⟨fun e=>by omega,fun e=>absurd (same_symm e) (less_not_same k)⟩
def snd (s:List UInt8) (L:Nat) (r:Nat->Nat) (p:Nat):Nat:=if p+L<s.length+1 then r (p+L)+1 else 0
theorem pair_less {L:Nat} {A:List Nat} {r:Nat->Nat} (h:Rank s L A r) {p q:Nat} (hp:p<=s.length) (hq:q<=s.length) :
  (r p<r q∨(r p=r q/\snd s L r p<snd s L r q))↔less s (L+L) p q:=by
 rw[less_add,h.lt p q hp hq,h.eq hp hq]
 constructor
 ·rintro (h1|⟨h1,h2⟩)
  ·exact .inl h1
  ·refine .inr ⟨h1,?_⟩
   unfold snd at h2;by_cases hpL:p+L<=s.length
   ·by_cases hqL:q+L<=s.length
    ·rw[if_pos (by omega),if_pos (by omega)] at h2
     exact(h.lt _ _ hpL hqL).1 (by omega)
    ·rw[if_neg (show ¬ q+L<s.length+1 by omega)] at h2;omega
   ·have e:=same_end hp hq h1 (.inl (by omega))
    subst e;omega
 ·rintro (h1|⟨h1,h2⟩)
  ·exact .inl h1
  ·refine .inr ⟨h1,?_⟩
   unfold snd;by_cases hqL:q+L<=s.length
   ·by_cases hpL:p+L<=s.length
    ·rw[if_pos (by omega),if_pos (by omega)]
     have:=(h.lt _ _ hpL hqL).2 h2;omega
    ·have e:=same_end hp hq h1 (.inl (by omega))
     subst e;omega
   ·have e:=same_end hp hq h1 (.inr (by omega))
    subst e;exact absurd h2 less_irrefl
theorem pair_same {L:Nat} {A:List Nat} {r:Nat->Nat} (h:Rank s L A r) {p q:Nat} (hp:p<=s.length) (hq:q<=s.length) :
  (r p=r q/\snd s L r p=snd s L r q)↔same s (L+L) p q:=by
 have h1:=pair_less h hp hq;have h2:=pair_less h hq hp;rcases tri (s:=s) (L+L) p q with k|k|k
 ·have:=h1.2 k
  exact⟨fun e=>by omega,fun e=>absurd e (less_not_same k)⟩
 ·refine⟨fun _=>k,fun _=>?_⟩
  have:=mt h1.1 (fun hh=>less_not_same hh k);have:=mt h2.1 (fun hh=>less_not_same hh (same_symm k));omega
 ·have:=h2.2 k
  exact⟨fun e=>by omega,fun e=>absurd (same_symm e) (less_not_same k)⟩
end
theorem ranks_tell {s:List UInt8} {L:Nat} {A:List Nat} (hp:A.Perm (List.range (s.length+1))) (hs:A.Pairwise fun p q=> ¬ less s L q p) (r:Nat->Nat)
  (h:∀i,(hi:i+1<A.length)->(same s L A[i] A[i+1]->r A[i+1]=r A[i])/\(¬ same s L A[i] A[i+1]->r A[i+1]=r A[i]+1)):Rank s L A r:=by
 have hord:∀i j,(hi:i<j)->(hj:j<A.length)-> ¬ less s L A[j] A[i]:=fun i j hi hj=>List.pairwise_iff_getElem.1 hs i j (by omega) hj hi
 have key:∀d i,(hi:i+d<A.length)->r A[i]<=r A[i+d]/\(same s L A[i] A[i+d]->r A[i]=r A[i+d])/\(less s L A[i] A[i+d]->r A[i]<r A[i+d]):=by
  intro d
  induction d with
  |zero=>intro i hi;exact⟨Nat.le_refl _,fun _=>rfl,fun h=>absurd h less_irrefl⟩
  |succ d ih =>
   intro i hi;obtain⟨h1,h2,h3⟩:=ih i (by omega);obtain⟨k1,k2⟩:=h (i+d) (by omega);have e:A[i+(d+1)]=A[i+d+1]:=rfl;rw[e];by_cases hsm:same s L A[i+d] A[i+d+1]
   ·have:=k1 hsm
    refine⟨by omega,fun hh=>?_,fun hh=>?_⟩
    ·have:=h2 (same_trans hh (same_symm hsm));omega
    ·have:=h3 (less_same hh (same_symm hsm));omega
   ·have hk:=k2 hsm
    refine⟨by omega,fun hh=>?_,fun _=>by omega⟩
    exfalso
    have hl:less s L A[i+d] A[i+d+1]:=by
     rcases tri (s:=s) L A[i+d] A[i+d+1] with t|t|t
     ·exact t
     ·exact absurd t hsm
     ·exact absurd t (hord (i+d) (i+d+1) (by omega) (by omega))
    rcases Nat.eq_zero_or_pos d with rfl|hd
    ·exact less_not_same hl hh
    ·rcases tri (s:=s) L A[i] A[i+d] with t|t|t
     ·exact less_not_same (less_trans t hl) hh
     ·exact less_not_same (same_less t hl) hh
     ·exact hord i (i+d) (by omega) (by omega) t
 refine⟨hp,hs,?_⟩;intro p q hpl hql;obtain⟨i,hi,rfl⟩:=List.mem_iff_getElem.1 (hp.mem_iff.2 (List.mem_range.2 (show p<s.length+1 by omega)));obtain⟨j,hj,rfl⟩:=List.mem_iff_getElem.1 (hp.mem_iff.2 (List.mem_range.2 (show q<s.length+1 by omega)));rcases Nat.lt_trichotomy i j with hij|hij|hij
 ·obtain⟨h1,h2,h3⟩:=key (j-i) i (by omega)
  have e:A[i+(j-i)]'(by omega)=A[j]:=by congr 1;omega
  rw[e] at h1 h2 h3;refine⟨fun hlt=>?_,h3⟩;rcases tri (s:=s) L A[i] A[j] with t|t|t
  ·exact t
  ·have:=h2 t;omega
  ·exact absurd t (hord i j hij hj)
 ·subst hij
  exact⟨fun h=>by omega,fun h=>absurd h less_irrefl⟩
 ·obtain⟨h1,h2,h3⟩:=key (i-j) j (by omega)
  have e:A[j+(i-j)]'(by omega)=A[i]:=by congr 1;omega
  rw[e] at h1 h2 h3;exact⟨fun hlt=>by omega,fun hl=>absurd hl (hord j i hij hi)⟩
theorem doubled_srt {s:List UInt8} {L:Nat} {A:List Nat} {r:Nat->Nat} (h:Rank s L A r) (hr:∀p,p<=s.length->r p<=s.length) :
  (ctd (s.length+1+1) r (ctd (s.length+1+1+1) (snd s L r) A)).Perm (List.range (s.length+1)) /\
  (ctd (s.length+1+1) r (ctd (s.length+1+1+1) (snd s L r) A)).Pairwise fun p q=> ¬ less s (L+L) q p:=by
 have hm:∀x∈A,x<=s.length:=fun x hx=>by have:=List.mem_range.1 (h.perm.mem_iff.1 hx);omega
 have p1:(ctd (s.length+1+1+1) (snd s L r) A).Perm A:=ctd_perm _ _ _ (fun x hx=>by
  unfold snd;split
  ·have:=hr (x+L) (by omega);omega
  ·omega)
 have p2:(ctd (s.length+1+1) r (ctd (s.length+1+1+1) (snd s L r) A)).Perm A:=(ctd_perm _ _ _ (fun x hx=>by have:=hr x (hm x (p1.mem_iff.1 hx));omega)).trans p1;refine⟨p2.trans h.perm,?_⟩;have w1:=ctd_pairwise (s.length+1+1+1) (snd s L r) A (fun _ _=>True) (List.pairwise_of_forall (fun _ _=>trivial));have w2:=ctd_pairwise (s.length+1+1) r _ _ w1;refine w2.imp_of_mem ?_;intro a b ha hb hab hl;have:=(pair_less h (hm b (p2.mem_iff.1 hb)) (hm a (p2.mem_iff.1 ha))).2 hl;omega
theorem first_srt (s:List UInt8):(ctd 257 (tl s) (List.range (s.length+1))).Perm (List.range (s.length+1))/\(ctd 257 (tl s) (List.range (s.length+1))).Pairwise fun p q=> ¬ less s 1 q p:=by
 refine⟨ctd_perm _ _ _ (fun x _=>by have:=tl_le s x;omega),?_⟩;have w1:=ctd_pairwise 257 (tl s) (List.range (s.length+1)) (fun _ _=>True) (List.pairwise_of_forall (fun _ _=>trivial));refine w1.imp ?_;intro a b hab hl;simp only[less,and_false,or_false] at hl;omega
theorem ranks_done {s:List UInt8} {L:Nat} {A:List Nat} {r:Nat->Nat} (h:Rank s L A r) (h0:∀hz:0<A.length,r A[0]=0) (h1:∀i,(hi:i+1<A.length)->r A[i+1]<=r A[i]+1)
  (hd:∀hz:s.length<A.length,r (A[s.length])=s.length):A.Pairwise fun p q=>less s L p q:=by
 have hl:A.length=s.length+1:=by rw[h.perm.length_eq,List.length_range]
 have hm:∀i (hi:i<A.length),A[i]<=s.length:=fun i hi=>by have:=List.mem_range.1 (h.perm.mem_iff.1 (List.getElem_mem hi));omega
 have up:∀d i,(hi:i+d<A.length)->r A[i+d]<=r A[i]+d:=by
  intro d
  induction d with
  |zero=>intro i _;exact Nat.le_refl _
  |succ d ih =>
   intro i hi;have a:=ih i (by omega);have b:=h1 (i+d) (by omega);have e:A[i+(d+1)]=A[i+d+1]:=rfl;rw[e];omega
 have all:∀i,(hi:i<A.length)->r A[i]=i:=by
  intro i hi;have a:=up i 0 (by omega);have b:=up (s.length-i) i (by omega);have e1:A[0+i]'(by omega)=A[i]:=by congr 1;omega
  have e2:A[i+(s.length-i)]'(by omega)=A[s.length]'(by omega):=by congr 1;omega
  rw[e1,h0 (by omega)] at a;rw[e2,hd (by omega)] at b;omega
 rw[List.pairwise_iff_getElem];intro i j hi hj hij;exact(h.lt _ _ (hm i hi) (hm j hj)).1 (by rw[all i hi,all j hj];exact hij)
theorem ranks_far {s:List UInt8} {L:Nat} {A:List Nat} {r:Nat->Nat} (h:Rank s L A r) (h0:∀hz:0<A.length,r A[0]=0) (hL:s.length<L)
  (h2:∀i,(hi:i+1<A.length)-> ¬ same s L A[i] A[i+1]->r A[i+1]=r A[i]+1) (hz:s.length<A.length):r A[s.length]=s.length:=by
 have hl:A.length=s.length+1:=by rw[h.perm.length_eq,List.length_range]
 have hm:∀i (hi:i<A.length),A[i]<=s.length:=fun i hi=>by have:=List.mem_range.1 (h.perm.mem_iff.1 (List.getElem_mem hi));omega
 have hnd:A.Nodup:=h.perm.nodup_iff.2 List.nodup_range;have all:∀i,(hi:i<A.length)->r A[i]=i:=by
  intro i
  induction i with
  |zero=>intro hi;exact h0 hi
  |succ i ih =>
   intro hi;rw[h2 i hi,ih (by omega)];intro hs;have:=same_end (hm _ _) (hm _ _) hs (.inl (by omega));have:=(List.getElem_inj hnd).1 this;omega
 exact all _ hz
structure Sorted (s:List UInt8) (A:List Nat):Prop where
 perm:A.Perm (List.range (s.length+1))
 srt:A.Pairwise fun p q=>less s (s.length+1) p q
theorem sorted_of {s:List UInt8} {L:Nat} {A:List Nat} (hp:A.Perm (List.range (s.length+1))) (h:A.Pairwise fun p q=>less s L p q):Sorted s A:=by
 refine⟨hp,h.imp_of_mem ?_⟩;intro a b ha hb hl;have ha':=List.mem_range.1 (hp.mem_iff.1 ha);have hb':=List.mem_range.1 (hp.mem_iff.1 hb);rcases tri (s:=s) (s.length+1) a b with t|t|t
 ·exact t
 ·have e:=same_end (by omega) (by omega) t (.inl (by omega))
  subst e;exact absurd hl less_irrefl
 ·exfalso
  rcases Nat.le_total L (s.length+1) with hL|hL
  ·obtain⟨d,hd⟩:=Nat.le.dest hL
   rw[<-hd,less_add] at t;rcases t with t|t
   ·exact less_irrefl (less_trans hl t)
   ·exact less_not_same hl (same_symm t.1)
  ·obtain⟨d,hd⟩:=Nat.le.dest hL
   rw[<-hd,less_add] at hl;rcases hl with hl|hl
   ·exact less_irrefl (less_trans hl t)
   ·exact less_not_same t (same_symm hl.1)
end Sx
end Go.Proofs.YtjligbmickfbdaaGreat
namespace Go.Proofs.YtjligbmickfbdaaGreat
namespace Sx
open Go.RowKit
def ints (l:List Nat):List Int:=l.map Int.ofNat
theorem length_ints (l:List Nat):(ints l).length=l.length:=List.length_map ..
theorem upto_step (n k:Nat) (h:k<n):(ints (List.range k)++List.replicate (n-k) 0).set k (k:Int)=ints (List.range (k+1))++List.replicate (n-(k+1)) 0:=by
 rw[List.set_append_right _ _ (by simp[ints]),length_ints,List.length_range,Nat.sub_self,show n-k=(n-(k+1))+1 by omega,List.replicate_succ,List.set_cons_zero,List.range_succ];simp[ints]
set_option maxHeartbeats 1600000 in
theorem upto_any (n:Nat) (w:World) (hn:n<=1000000) :
  Calls Tryz.prog 99 #[.int .i64 (n:Int)] w fun e w'=>∃v,e=.returned v/\Own w' w.heap.size v (ints (List.range n))/\Below w.heap.size w w':=by
 go_enter Tryz.func99, Tryz.ntmps99
 go_wp2_with (at_make;(refine make1 (n:=n) (by omega) (Nat.le_refl w.heap.size) ?_);intro w1 hown1 hg1)
 have hb1:Below w.heap.size w w1:=(Below.refl _ _).grown hg1 (Nat.le_refl _) (by simp);clear hg1;go_loopg [9] n (fun kx s9 wr=>∃(k:Nat),s9=.int .i64 (k:Int)/\k<=n/\n-k<=kx/\Aside (Own wr w.heap.size (.slice (some ⟨w.heap.size,0,none⟩) n n) (ints (List.range k)++List.replicate (n-k) 0)/\Below w.heap.size w wr))
 case atStart=>exact⟨0,rfl,by omega,by omega,by simpa[ints] using hown1,hb1⟩
 case round =>
  clear hown1 hb1;obtain⟨k,rfl,hk,hkx,H⟩:=hrel;by_cases hlt:(k:Int)<(n:Int)
  ·obtain⟨hown,hb⟩:=H.out
   have hc:=hown.cell (k:=k) (x:=0) (by rw[List.getElem?_append_right (by simp[ints]),length_ints,List.length_range,Nat.sub_self,List.getElem?_replicate,if_pos (by omega)]);have hf:=hown.frozen (k:=k);have HN:=Own.put2 (k:=k) ⟨hown,hb⟩ (k:Int);rw[upto_step n k (by omega)] at HN;have HN:Aside _:=HN;clear hown hb H;go_wp2_with fail
   go_roundg (n-(k+1))
   case measure=>omega
   case rel=>exact⟨k+1,by go_num,by omega,by omega,HN.out⟩
  ·obtain⟨hown,hb⟩:=H.out
   have e:n-k=0:=by omega
   have e2:k=n:=by omega
   rw[e,List.replicate_zero,List.append_nil,e2] at hown;clear H;go_wp2_with fail
   go_ret
   exact⟨_,rfl,hown,hb⟩
end Sx
end Go.Proofs.YtjligbmickfbdaaGreat
