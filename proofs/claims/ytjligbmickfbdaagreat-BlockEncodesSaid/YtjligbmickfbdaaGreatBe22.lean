/- lens.Best's answer, symbol by symbol: plain lists, no program. -/
import Derived.Test.YtjligbmickfbdaaGreatBe21
namespace Go.Proofs.YtjligbmickfbdaaGreat
namespace Ln
open St
def lv:Nat->List Int->List Thing
 |_,[]=>[]
 |s,n::r=>if 0<n then(n,(s:Int))::lv (s+1) r else lv (s+1) r
def inc (l:List Int) (s:Nat):List Int:=l.set s (l.getD s 0+1)
def incs (o:List Int) (xs:List Thing):List Int:=xs.foldl (fun o x=>if x.2<0 then o else inc o x.2.toNat) o
def takenP (F:List Thing):Nat->Nat->List Int->List Int
 |0,n,o=>incs o ((rowsL F 0).take n)
 |i+1,n,o=>takenP F i (2*npk ((rowsL F (i+1)).take n)) (incs o ((rowsL F (i+1)).take n))
def bestL (counts:List Int) (most:Nat):List Int :=
 if(stab wt (lv 0 counts)).length<2 then(stab wt (lv 0 counts)).foldl (fun o x=>o.set x.2.toNat 1) (List.replicate counts.length 0)
 else takenP (stab wt (lv 0 counts)) (most-1) (2*(stab wt (lv 0 counts)).length-2) (List.replicate counts.length 0)
theorem incs_nil (o:List Int):incs o []=o:=rfl
theorem takenP_zero (F:List Thing):∀(i:Nat) (o:List Int),takenP F i 0 o=o
 |0,o=>by simp[takenP,incs_nil]
 |i+1,o=>by
  simp only[takenP,List.take_zero,incs_nil];rw[show npk ([]:List Thing)=0 from rfl];exact takenP_zero F i o
theorem length_inc (o:List Int) (s:Nat):(inc o s).length=o.length:=by simp[inc]
theorem length_incs:∀(xs:List Thing) (o:List Int),(incs o xs).length=o.length
 | [],_=>rfl
 |x::r,o=>by
  unfold incs;rw[List.foldl_cons];have:=length_incs r;unfold incs at this;rw[this];split
  ·rfl
  ·exact length_inc _ _
theorem length_takenP (F:List Thing):∀(i n:Nat) (o:List Int),(takenP F i n o).length=o.length
 |0,n,o=>length_incs _ _
 |i+1,n,o=>by rw[takenP,length_takenP F i,length_incs]
theorem incs_leaves:∀(xs:List Thing) (o:List Int),incs o xs=incs o (xs.filter fun x=>decide (0<=x.2))
 | [],_=>rfl
 |x::r,o=>by
  have ih:=incs_leaves r;by_cases h:x.2<0
  ·rw[List.filter_cons_of_neg (by simp;omega),<-ih]
   unfold incs;rw[List.foldl_cons,if_pos h]
  ·rw[List.filter_cons_of_pos (by simp;omega)]
   unfold incs at *;rw[List.foldl_cons,List.foldl_cons,if_neg h,ih]
structure Rel (F:List Thing) (ls:List Nat) (o:List Int):Prop where
 len:ls.length=F.length
 leaf:∀(j:Nat) (x:Thing),F[j]? =some x->o[x.2.toNat]? =some ((ls.getD j 0:Nat):Int)
 other:∀s,s<o.length->(∀x∈F,x.2.toNat≠s)->o[s]? =some 0
structure Syms (F:List Thing) (N:Nat):Prop extends Leaves F where
 lt:∀x∈F,x.2.toNat<N
 nodup:(F.map fun x=>x.2.toNat).Nodup
theorem bump_succ (ls:List Nat) (a:Nat) (ha:a<ls.length):bump ls (a+1)=(bump ls a).set a (ls.getD a 0+1):=by
 unfold bump;rw[List.take_add_one,List.getElem?_eq_getElem ha,List.map_append,List.set_append_right _ _ (by simp;omega)];simp only[Option.toList_some,List.map_cons,List.map_nil,List.append_assoc,List.length_map,List.length_take,List.getD_eq_getElem?_getD,List.getElem?_eq_getElem ha,Option.getD_some];rw[Nat.min_eq_left (by omega),Nat.sub_self,List.drop_eq_getElem_cons ha,List.set_cons_zero];simp
theorem getD_bump (ls:List Nat) (a j:Nat) (h:a<=j):(bump ls a).getD j 0=ls.getD j 0:=by
 unfold bump;rw[List.getD_eq_getElem?_getD,List.getD_eq_getElem?_getD];by_cases hj:j<ls.length
 ·rw[List.getElem?_append_right (by simp;omega)]
  simp only[List.length_map,List.length_take];rw[Nat.min_eq_left (by omega),List.getElem?_drop,show a+(j-a)=j by omega]
 ·rw[List.getElem?_eq_none (by simp;omega),List.getElem?_eq_none (by omega)]
theorem nodup_at {F:List Thing} (h:(F.map fun x=>x.2.toNat).Nodup) {i j:Nat} {x y:Thing} (hi:F[i]? =some x) (hj:F[j]? =some y) (e:x.2.toNat=y.2.toNat):i=j:=by
 have hi':=(List.getElem?_eq_some_iff.1 hi)
 have hj':=(List.getElem?_eq_some_iff.1 hj)
 obtain⟨h1,e1⟩:=hi';obtain⟨h2,e2⟩:=hj';have:=(List.getElem_inj (xs:=F.map fun x=>x.2.toNat) (i:=i) (j:=j) (h₀:=by simpa using h1) (h₁:=by simpa using h2) h).1 (by simp[e1,e2,e]);exact this
theorem rel_incs {F:List Thing} {N:Nat} (h:Syms F N) {ls:List Nat} {o:List Int} (ho:o.length=N) (hr:Rel F ls o):∀a,a<=F.length->Rel F (bump ls a) (incs o (F.take a))
 |0,_=>by simpa[bump,incs_nil] using hr
 |a+1,ha=>by
  have ih:=rel_incs h ho hr a (by omega);have hF:F[a]? =some F[a]:=List.getElem?_eq_getElem (by omega);have hlen:=hr.len;have e:incs o (F.take (a+1))=inc (incs o (F.take a)) F[a].2.toNat:=by
   rw[List.take_add_one,hF];unfold incs;rw[List.foldl_append];simp only[Option.toList_some,List.foldl_cons,List.foldl_nil];rw[if_neg (by have:=h.sym F[a] (List.getElem_mem _);omega)]
  rw[e,bump_succ ls a (by omega)];have hlt:=h.lt F[a] (List.getElem_mem _);have hcur:=ih.leaf a _ hF;rw[getD_bump ls a a (Nat.le_refl _)] at hcur;refine⟨by rw[List.length_set,length_bump,hlen],?_,?_⟩
  ·intro j x hx
   unfold inc;by_cases hj:j=a
   ·subst hj
    rw[hF] at hx;cases hx;rw[List.getElem?_set_self (by rw[length_incs,ho];exact hlt),List.getD_eq_getElem?_getD,hcur];have e2:((bump ls j).set j (ls.getD j 0+1)).getD j 0=ls.getD j 0+1:=by
     rw[List.getD_eq_getElem?_getD,List.getElem?_set_self (by rw[length_bump];omega)];rfl
    rw[e2];simp
   ·have hne:F[a].2.toNat≠x.2.toNat:=fun e=>hj (nodup_at h.nodup hx hF e.symm)
    rw[List.getElem?_set_ne hne,ih.leaf j x hx,List.getD_eq_getElem?_getD,List.getD_eq_getElem?_getD,List.getElem?_set_ne (fun e=>hj e.symm)]
  ·intro s hs hn
   unfold inc at hs ⊢;rw[List.length_set] at hs;rw[List.getElem?_set_ne (hn F[a] (List.getElem_mem _))];exact ih.other s hs hn
theorem rel_taken {F:List Thing} {N:Nat} (h:Syms F N):∀(i n:Nat) (ls:List Nat) (o:List Int),n<=(rowsL F i).length->o.length=N->Rel F ls o->Rel F ((tk F i n).foldl bump ls) (takenP F i n o)
 |0,n,ls,o,hn,ho,hr=>by
  simp only[tk,List.foldl_cons,List.foldl_nil,takenP];rw[incs_leaves,(rows_take0 h.toLeaves n).1];exact rel_incs h ho hr n hn
 |i+1,n,ls,o,hn,ho,hr=>by
  obtain⟨l,b,hlb,hl,hb,he,hf,hk,hcmp⟩:=rows_take h.toLeaves i n hn;simp only[tk,List.foldl_cons,takenP,hk];rw[incs_leaves,hf,show n-b=l by omega];exact rel_taken h i (2*b) _ _ hb (by rw[length_incs,ho]) (rel_incs h ho hr l hl)
theorem lv_ge:∀(l:List Int) (s:Nat),∀x∈lv s l,0<wt x/\(s:Int)<=x.2/\x.2<s+l.length
 | [],s,x,h=>by simp[lv] at h
 |n::r,s,x,h=>by
  simp only[lv] at h;have ih:=lv_ge r (s+1);split at h
  ·rename_i hn
   rcases List.mem_cons.1 h with rfl|h
   ·simp[wt,hn];omega
   ·have:=ih x h;simp only[List.length_cons];omega
  ·have:=ih x h;simp only[List.length_cons];omega
theorem lv_nodup:∀(l:List Int) (s:Nat),((lv s l).map fun x=>x.2.toNat).Nodup
 | [],s=>by simp[lv]
 |n::r,s=>by
  simp only[lv];split
  ·rw[List.map_cons,List.nodup_cons]
   refine⟨?_,lv_nodup r (s+1)⟩;intro hm;obtain⟨x,hx,e⟩:=List.mem_map.1 hm;have:=lv_ge r (s+1) x hx;simp only[Int.toNat_natCast] at e;omega
  ·exact lv_nodup r (s+1)
theorem syms_lv (counts:List Int):Syms (stab wt (lv 0 counts)) counts.length:=by
 have hp:=stab_perm wt (lv 0 counts);refine⟨⟨stab_srt wt _,?_,?_⟩,?_,?_⟩
 ·intro x hx;exact(lv_ge counts 0 x (hp.mem_iff.1 hx)).1
 ·intro x hx;have:=(lv_ge counts 0 x (hp.mem_iff.1 hx)).2.1;simpa using this
 ·intro x hx;have:=(lv_ge counts 0 x (hp.mem_iff.1 hx)).2;omega
 ·exact(hp.map _).nodup_iff.2 (lv_nodup counts 0)
theorem length_lv:∀(l:List Int) (s:Nat),(lv s l).length<=l.length
 | [],s=>by simp[lv]
 |n::r,s=>by
  have:=length_lv r (s+1);simp only[lv];split<;>simp only[List.length_cons]<;>omega
def kr (x:Int):Nat:=if 0<x then 2^(15-x.toNat) else 0
theorem kr_sum:∀(counts o:List Int) (s:Nat),o.length=counts.length->(∀i,(hi:i<counts.length)-> ¬ 0<counts[i]->o.getD i 0=0) ->
  (o.map kr).sum=((lv s counts).map fun x=>kr (o.getD (x.2.toNat-s) 0)).sum
 | [],o,s,hl,_=>by
   have:o=[]:=List.eq_nil_of_length_eq_zero (by simpa using hl);subst this;simp[lv]
 |n::r,o,s,hl,h0=>by
  rcases o with _|⟨y,o⟩
  ·simp at hl
  have ih:=kr_sum r o (s+1) (by simpa using hl) (fun i hi hn=>by have:=h0 (i+1) (by simp;omega) (by simpa using hn);simpa using this);have e:((lv (s+1) r).map fun x=>kr ((y::o).getD (x.2.toNat-s) 0))=((lv (s+1) r).map fun x=>kr (o.getD (x.2.toNat-(s+1)) 0)):=by
   refine List.map_congr_left fun x hx=>?_
   have:=lv_ge r (s+1) x hx;rw[show x.2.toNat-s=(x.2.toNat-(s+1))+1 by omega];rfl
  simp only[lv,List.map_cons,List.sum_cons];split
  ·rw[List.map_cons,List.sum_cons,e,ih]
   simp
  ·rename_i hn
   have:=h0 0 (by simp) (by simpa using hn);simp at this
   rw[e,ih,this];simp[kr]
structure Good (counts o:List Int) (most:Nat):Prop where
 len:o.length=counts.length
 rng:∀x∈o,0<=x/\x<=most
 used:∀i,(hi:i<counts.length)->(0<o.getD i 0↔0<counts[i])
theorem lv_mem:∀(l:List Int) (s i:Nat) (hi:i<l.length),0<l[i]->(l[i],((s+i:Nat):Int))∈lv s l
 |n::r,s,0,_,h=>by simp only[lv];rw[if_pos (by simpa using h)];simp
 |n::r,s,i+1,hi,h=>by
  have:=lv_mem r (s+1) i (by simpa using hi) (by simpa using h);simp only[lv];rw[show s+(i+1)=s+1+i by omega];split
  ·exact List.mem_cons_of_mem _ (by simpa using this)
  ·simpa using this
theorem lv_of_mem:∀(l:List Int) (s:Nat),∀x∈lv s l,∃i,∃hi:i<l.length,x=(l[i],((s+i:Nat):Int))/\0<l[i]
 | [],s,x,h=>by simp[lv] at h
 |n::r,s,x,h=>by
  simp only[lv] at h;have ih:∀x∈lv (s+1) r,∃i,∃hi:i<(n::r).length,x=((n::r)[i],((s+i:Nat):Int))/\0<(n::r)[i]:=by
   intro x hx;obtain⟨i,hi,e,h0⟩:=lv_of_mem r (s+1) x hx;exact⟨i+1,by simp;omega,by rw[e];simp;omega,by simpa using h0⟩
  split at h
  ·rename_i hn
   rcases List.mem_cons.1 h with rfl|h
   ·exact⟨0,by simp,by simp,by simpa using hn⟩
   ·exact ih x h
  ·exact ih x h
theorem best_many (counts:List Int) (most:Nat) (hm:0<most) (hm2:most<=15) (hn:2<=(stab wt (lv 0 counts)).length) (hs:(stab wt (lv 0 counts)).length<=2^most) :
  Good counts (bestL counts most) most/\((bestL counts most).map kr).sum=32768:=by
 have hS:=syms_lv counts;have hlow:2*(stab wt (lv 0 counts)).length-2<=(rowsL (stab wt (lv 0 counts)) (most-1)).length:=by
  rcases length_rows (F:=stab wt (lv 0 counts)) (most-1) with h1|h1
  ·have:((stab wt (lv 0 counts)).length-1)/2^(most-1)<2:=by
    rw[Nat.div_lt_iff_lt_mul (Nat.two_pow_pos _)];rw[show most=(most-1)+1 by omega,Nat.pow_succ] at hs;omega
   omega
  ·omega
 have hR:=rel_taken hS (most-1) (2*(stab wt (lv 0 counts)).length-2) (List.replicate (stab wt (lv 0 counts)).length 0) (List.replicate counts.length 0) hlow (by simp)
  ⟨by simp,fun j x hx=>by
   have:=hS.lt x (List.mem_of_getElem? hx);rw[List.getElem?_replicate,if_pos this,List.getD_eq_getElem?_getD,List.getElem?_replicate];split<;>rfl,fun s hs _=>by rw[List.getElem?_replicate,if_pos (by simpa using hs)]⟩
 have hB:=lens_bounds hS.toLeaves most hm hn hs;have hW:=lens_whole hS.toLeaves most hm hn hs;have e:bestL counts most=takenP (stab wt (lv 0 counts)) (most-1) (2*(stab wt (lv 0 counts)).length-2) (List.replicate counts.length 0):=by
  unfold bestL;rw[if_neg (by omega)]
 rw[<-e] at hR;have hlen:(bestL counts most).length=counts.length:=by rw[e,length_takenP,List.length_replicate]
 have hll:=length_lensOf (F:=stab wt (lv 0 counts)) most
 change Rel _ (lensOf (stab wt (lv 0 counts)) most) _ at hR
 have hb:∀j,j<(stab wt (lv 0 counts)).length->1<=(lensOf (stab wt (lv 0 counts)) most).getD j 0/\(lensOf (stab wt (lv 0 counts)) most).getD j 0<=most:=by
  intro j hj;rw[List.getD_eq_getElem?_getD,List.getElem?_eq_getElem (by omega)];exact hB _ (List.getElem_mem _)
 have hused:∀i,(hi:i<counts.length)->(0<counts[i]/\1<=(bestL counts most).getD i 0/\(bestL counts most).getD i 0<=most)∨(¬ 0<counts[i]/\(bestL counts most).getD i 0=0):=by
  intro i hi;by_cases h0:0<counts[i]
  ·left
   have hmem:=(stab_perm wt (lv 0 counts)).mem_iff.2 (lv_mem counts 0 i hi h0);obtain⟨j,hj⟩:=List.mem_iff_getElem?.1 hmem;have:=hR.leaf j _ hj;have hjl:=(List.getElem?_eq_some_iff.1 hj).1;have hbj:=hb j hjl;simp only[Nat.zero_add,Int.toNat_natCast] at this;rw[List.getD_eq_getElem?_getD,this];simp only[Option.getD_some];exact⟨h0,by omega,by omega⟩
  ·right
   refine⟨h0,?_⟩;have:=hR.other i (by omega) (by
    intro x hx e;obtain⟨k,hk,rfl,hk0⟩:=lv_of_mem counts 0 x ((stab_perm wt (lv 0 counts)).mem_iff.1 hx);simp at e
    subst e;exact h0 hk0)
   rw[List.getD_eq_getElem?_getD,this];rfl
 refine⟨⟨hlen,?_,?_⟩,?_⟩
 ·intro x hx
  obtain⟨i,hi,e⟩:=List.mem_iff_getElem.1 hx;have:=hused i (by omega);rw[List.getD_eq_getElem?_getD,List.getElem?_eq_getElem hi,Option.getD_some,e] at this;omega
 ·intro i hi
  have:=hused i hi
  constructor<;>intro<;>omega
 ·rw[kr_sum counts (bestL counts most) 0 hlen (by intro i hi hn;have:=hused i hi;omega)]
  have hp:=((stab_perm wt (lv 0 counts)).map fun x=>kr ((bestL counts most).getD (x.2.toNat-0) 0)).sum_nat;rw[<-hp];have e2:((stab wt (lv 0 counts)).map fun x=>kr ((bestL counts most).getD (x.2.toNat-0) 0))=(lensOf (stab wt (lv 0 counts)) most).map fun x=>2^(15-x):=by
   refine List.ext_getElem (by simp[hll]) fun j h1 h2=>?_
   simp only[List.length_map] at h1 h2;have:=hR.leaf j _ (List.getElem?_eq_getElem h1);have hbj:=hb j h1;rw[List.getD_eq_getElem?_getD,List.getElem?_eq_getElem h2,Option.getD_some] at hbj this;rw[List.getElem_map,List.getElem_map,Nat.sub_zero,List.getD_eq_getElem?_getD,this,Option.getD_some];unfold kr;rw[if_pos (by omega),Int.toNat_natCast]
  rw[e2];have e3:((lensOf (stab wt (lv 0 counts)) most).map fun x=>2^(15-x))=(lensOf (stab wt (lv 0 counts)) most).map (fun x=>2^(15-most)*2^(most-x)):=by
   refine List.map_congr_left fun x hx=>?_
   have:=hB x hx;rw[<-Nat.pow_add];congr 1;omega
  have e4:∀(c:Nat) (l:List Nat),(l.map fun x=>c*2^(most-x)).sum=c*room most l:=by
   intro c l
   induction l with
   |nil=>simp[room]
   |cons y r ih=>simp only[room,List.map_cons,List.sum_cons] at *;rw[ih,Nat.mul_add]
  rw[e3,e4,hW,<-Nat.pow_add,show 15-most+most=15 by omega]
theorem best_few (counts:List Int) (most:Nat) (hn:(stab wt (lv 0 counts)).length<2) :
  (lv 0 counts=[]/\bestL counts most=List.replicate counts.length 0) ∨
  ∃i,∃hi:i<counts.length,lv 0 counts=[(counts[i],(i:Int))]/\0<counts[i]/\bestL counts most=(List.replicate counts.length 0).set i 1:=by
 unfold bestL;rw[if_pos hn];have hp:=stab_perm wt (lv 0 counts);have hl:=hp.length_eq;rcases h:lv 0 counts with _|⟨x,_|⟨y,r⟩⟩
 ·left;exact⟨rfl,rfl⟩
 ·right
  obtain⟨i,hi,e,h0⟩:=lv_of_mem counts 0 x (by rw[h];simp);refine⟨i,hi,?_,h0,?_⟩
  ·rw[e];simp
  ·rw[stab_one,e];simp
 ·rw[h] at hl;rw[h] at hn;simp at hl;omega
theorem good_best (counts:List Int) (most:Nat) (hm:0<most) (hm2:most<=15) (hs:(lv 0 counts).length<=2^most):Good counts (bestL counts most) most:=by
 by_cases hn:(stab wt (lv 0 counts)).length<2
 ·rcases best_few counts most hn with ⟨h1,h2⟩|⟨i,hi,h1,h0,h2⟩
  ·rw[h2]
   refine⟨by simp,fun x hx=>by rw[List.eq_of_mem_replicate hx];omega,fun i hi=>?_⟩;rw[List.getD_eq_getElem?_getD,List.getElem?_replicate,if_pos hi];simp only[Option.getD_some]
   constructor
   ·intro h;omega
   ·intro h
    have:=lv_mem counts 0 i hi h;rw[h1] at this;simp at this
  ·rw[h2]
   refine⟨by simp,fun x hx=>?_,fun j hj=>?_⟩
   ·rcases List.mem_or_eq_of_mem_set hx with hx|rfl
    ·rw[List.eq_of_mem_replicate hx];omega
    ·omega
   ·rw[List.getD_eq_getElem?_getD]
    by_cases hij:i=j
    ·subst hij
     rw[List.getElem?_set_self (by simpa using hi)];simp[h0]
    ·rw[List.getElem?_set_ne hij,List.getElem?_replicate,if_pos hj]
     simp only[Option.getD_some]
     constructor
     ·intro h;omega
     ·intro h
      have:=lv_mem counts 0 j hj h;rw[h1] at this;simp at this;omega
 ·exact(best_many counts most hm hm2 (by omega) (by rw[(stab_perm wt (lv 0 counts)).length_eq];exact hs)).1
end Ln
end Go.Proofs.YtjligbmickfbdaaGreat
