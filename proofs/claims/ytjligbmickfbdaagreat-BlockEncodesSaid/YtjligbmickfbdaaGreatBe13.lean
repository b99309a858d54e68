/- The transform of Burrows and Wheeler, and that a text comes back of it: plain lists, no program. The transform, row by row: plain lists, no program. bwt.Forward. -/
import Derived.Test.YtjligbmickfbdaaGreatBe08
import Derived.Test.YtjligbmickfbdaaGreatBe12
namespace Go.Proofs.YtjligbmickfbdaaGreat
namespace Bw
open Sx
def lst (s:List UInt8) (A:List Nat):List UInt8:=(A.filter fun p=>decide (p≠0)).map fun p=>s.getD (p-1) 0
def pri (A:List Nat):Nat:=(A.takeWhile fun p=>decide (p≠0)).length
def at_ (l:List UInt8) (pr row:Nat):UInt8:=l.getD (if pr<row then row-1 else row) 0
def beg (l:List UInt8) (b:Nat):Nat:=1+l.countP fun c=>decide (c.toNat<b)
def stp (l:List UInt8) (pr row:Nat):Nat:=beg l (at_ l pr row).toNat+((List.range row).filter fun r=>decide (r≠pr)&&decide (at_ l pr r=at_ l pr row)).length
def inv (l:List UInt8) (pr:Nat) (step:Nat->Nat):Nat->Nat->List UInt8->Option (List UInt8)
 |0,row,out=>if row=pr then some out else none
 |n+1,row,out=>if row=pr then none else inv l pr step n (step row) (at_ l pr row::out)
section
variable {s:List UInt8} {A:List Nat}
theorem A_len (h:Sorted s A):A.length=s.length+1:=by rw[h.perm.length_eq,List.length_range]
theorem A_mem (h:Sorted s A) (p:Nat):p∈A↔p<=s.length:=by rw[h.perm.mem_iff,List.mem_range];omega
theorem A_nodup (h:Sorted s A):A.Nodup:=h.perm.nodup_iff.2 List.nodup_range
theorem pri_at (h:Sorted s A):∃X Y,A=X++0::Y/\X.length=pri A/\(∀p∈X,p≠0)/\ ∀p∈Y,p≠0:=by
 obtain⟨X,Y,e⟩:=List.append_of_mem ((A_mem h 0).2 (by omega));have hn:=A_nodup h;rw[e,List.nodup_append] at hn;have hX:∀p∈X,p≠0:=fun p hp=>hn.2.2 p hp 0 (by simp)
 have hY:∀p∈Y,p≠0:=fun p hp e0=>(List.nodup_cons.1 hn.2.1).1 (e0▸hp)
 refine⟨X,Y,e,?_,hX,hY⟩;unfold pri;rw[e,List.takeWhile_append_of_pos (by intro a ha;simpa using hX a ha)];simp
theorem lst_split {X Y:List Nat} (e:A=X++0::Y) (hX:∀p∈X,p≠0) (hY:∀p∈Y,p≠0):lst s A=X.map (fun p=>s.getD (p-1) 0)++Y.map (fun p=>s.getD (p-1) 0):=by
 unfold lst;rw[e,List.filter_append,List.filter_cons_of_neg (by simp),List.filter_eq_self.2 (by intro p hp;simpa using hX p hp),List.filter_eq_self.2 (by intro p hp;simpa using hY p hp),List.map_append]
theorem length_lst (h:Sorted s A):(lst s A).length=s.length:=by
 obtain⟨X,Y,e,_,hX,hY⟩:=pri_at h;have:=A_len h;rw[lst_split e hX hY];rw[e] at this;simp at this ⊢;omega
theorem at_lst (h:Sorted s A) (row:Nat) (hr:row<A.length) (hp:row≠pri A):at_ (lst s A) (pri A) row=s.getD (A[row]-1) 0:=by
 obtain⟨X,Y,e,hl,hX,hY⟩:=pri_at h;have e1:A[row]? =some A[row]:=List.getElem?_eq_getElem hr;unfold at_;rw[lst_split e hX hY,<-hl];rw[<-hl] at hp;rcases Nat.lt_or_ge X.length row with hlt|hge
 ·rw[if_pos hlt,List.getD_eq_getElem?_getD,List.getElem?_append_right (by simp;omega),List.length_map,List.getElem?_map]
  have:A[row]? =Y[row-1-X.length]? :=by
   rw[e,List.getElem?_append_right (by omega),show row-X.length=(row-1-X.length)+1 by omega,List.getElem?_cons_succ]
  rw[<-this,e1];rfl
 ·rw[if_neg (by omega),List.getD_eq_getElem?_getD,List.getElem?_append_left (by simp;omega),List.getElem?_map]
  have:A[row]? =X[row]? :=by
   rw[e,List.getElem?_append_left (by omega)]
  rw[<-this,e1];rfl
theorem row_count (h:Sorted s A) (row:Nat) (hr:row<A.length) (f:Nat->Bool) (hf:∀p∈A,f p=true↔less s (s.length+1) p A[row]):A.countP f=row:=by
 have e:A=A.take row++A[row]::A.drop (row+1):=by rw[List.getElem_cons_drop,List.take_append_drop]
 have hs:=h.srt;rw[e,List.pairwise_append,List.pairwise_cons] at hs;have hm:∀p,p∈A.take row∨p=A[row]∨p∈A.drop (row+1)->p∈A:=by
  intro p hp;rcases hp with hp|rfl|hp
  ·exact List.mem_of_mem_take hp
  ·exact List.getElem_mem hr
  ·exact List.mem_of_mem_drop hp
 rw[e,List.countP_append,List.countP_eq_length.2 (by intro p hp;exact(hf p (hm p (.inl hp))).2 (hs.2.2 p hp _ (List.mem_cons_self ..))),List.countP_eq_zero.2,List.length_take]
 ·omega
 ·intro p hp hfp
  have hl:=(hf p (hm p (by rcases List.mem_cons.1 hp with rfl|hp;exact .inr (.inl rfl);exact .inr (.inr hp)))).1 hfp;rcases List.mem_cons.1 hp with rfl|hp
  ·exact less_irrefl hl
  ·exact less_irrefl (less_trans hl (hs.2.1.1 p hp))
theorem countP_range_succ (n:Nat) (f:Nat->Bool):(List.range (n+1)).countP f=(if f 0 then 1 else 0)+(List.range n).countP fun q=>f (q+1):=by
 rw[List.range_succ_eq_map,List.countP_cons,List.countP_map];have:(List.range n).countP (f∘Nat.succ)=(List.range n).countP fun q=>f (q+1):=rfl
 omega
theorem countP_text (s:List UInt8) (g:UInt8->Bool):(List.range s.length).countP (fun q=>g (s.getD q 0))=s.countP g:=by
 induction s with
 |nil=>rfl
 |cons c s ih =>
  rw[List.length_cons,countP_range_succ,List.countP_cons,<-ih];simp only[List.getD_cons_zero,List.getD_cons_succ];omega
theorem count_lst (h:Sorted s A) (g:UInt8->Bool):(lst s A).countP g=s.countP g:=by
 have hp:(A.filter fun p=>decide (p≠0)).Perm ((List.range (s.length+1)).filter fun p=>decide (p≠0)):=h.perm.filter _;unfold lst;rw[(hp.map _).countP_eq,List.countP_map,List.countP_filter,countP_range_succ,<-countP_text s g];simp
theorem step_row (h:Sorted s A) (row j:Nat) (hr:row<A.length) (hj:j<A.length) (hp:row≠pri A) (he:A[row]=A[j]+1):stp (lst s A) (pri A) row=j:=by
 have hq:A[j]<s.length:=by have:=(A_mem h A[row]).1 (List.getElem_mem hr);omega
 have hc:(at_ (lst s A) (pri A) row)=s[A[j]]:=by
  rw[at_lst h row hr hp,he,Nat.add_sub_cancel,List.getD_eq_getElem?_getD,List.getElem?_eq_getElem hq];rfl
 have hj':=row_count h j hj (fun p=>decide (tl s p<tl s A[j])||(decide (tl s p=tl s A[j])&&decide (¬ p=s.length)&&(A.take row).contains (p+1))) (by
  intro p hpA;have hpl:=(A_mem h p).1 hpA;simp only[Bool.or_eq_true,Bool.and_eq_true,decide_eq_true_eq,List.contains_iff_mem];have e1:less s (s.length+1) p A[j]↔less s (s.length+1+1) p A[j]:=by
   constructor
   ·intro hl;rw[less_add];exact .inl hl
   ·intro hl
    rw[less_add] at hl;rcases hl with hl|hl
    ·exact hl
    ·have e:=same_end hpl (by omega) hl.1 (.inl (by omega))
     rw[e] at hl;exact absurd hl.2 less_irrefl
  rw[e1];show _↔tl s p<tl s A[j]∨(tl s p=tl s A[j]/\less s (s.length+1) (p+1) (A[j]+1))
  constructor
  ·rintro (hl|⟨⟨hl,hne⟩,hm⟩)
   ·exact .inl hl
   ·refine .inr ⟨hl,?_⟩
    have hs:=h.srt;have e:A=A.take row++A[row]::A.drop (row+1):=by rw[List.getElem_cons_drop,List.take_append_drop]
    rw[e,List.pairwise_append] at hs;rw[<-he];exact hs.2.2 _ hm _ (List.mem_cons_self ..)
  ·rintro (hl|⟨hl,hm⟩)
   ·exact .inl hl
   ·have hne: ¬ p=s.length:=by
     intro e;rw[e,tl_ge (Nat.le_refl _),tl_lt hq] at hl;omega
    refine .inr ⟨⟨hl,hne⟩,?_⟩;obtain⟨i,hi,hie⟩:=List.mem_iff_getElem.1 ((A_mem h (p+1)).2 (by omega));rw[List.mem_take_iff_getElem];refine⟨i,?_,hie⟩;rcases Nat.lt_or_ge i row with hlt|hge
    ·omega
    ·exfalso
     rw[<-he,<-hie] at hm;rcases Nat.lt_or_ge row i with hlt|hge'
     ·exact less_irrefl (less_trans hm (List.pairwise_iff_getElem.1 h.srt row i hr hi hlt))
     ·have:i=row:=by omega
      subst this;exact less_irrefl hm)
 rw[<-hj',h.perm.countP_eq];unfold stp beg;rw[hc,count_lst h];have hsplit:∀(l:List Nat) (f g:Nat->Bool),(∀x∈l,¬ (f x=true/\g x=true))->l.countP (fun x=>f x||g x)=l.countP f+l.countP g:=by
  intro l f g
  induction l with
  |nil=>intro _;rfl
  |cons x r ih =>
   intro hd;have:=hd x (by simp);rw[List.countP_cons,List.countP_cons,List.countP_cons,ih (fun y hy=>hd y (by simp[hy]))];cases hf:f x<;>cases hg:g x<;>simp[hf,hg] at this ⊢ <;>omega
 rw[hsplit _ (fun p=>decide (tl s p<tl s A[j])) _ (by intro x _;simp;omega)];congr 1
 ·
  rw[List.range_succ,List.countP_append,List.countP_singleton,tl_ge (Nat.le_refl s.length),tl_lt hq,if_pos (by simp),Nat.add_comm];congr 1;rw[<-countP_text s];refine List.countP_congr fun q hqr=>?_
  have hql:=List.mem_range.1 hqr;rw[tl_lt hql,List.getD_eq_getElem?_getD,List.getElem?_eq_getElem hql];simp
 ·
  have e2:(List.range (s.length+1)).countP (fun p=>decide (tl s p=tl s A[j])&&decide (¬ p=s.length)&&(A.take row).contains (p+1)) =
    (List.range (s.length+1)).countP (fun p'=>decide (p'≠0)&&decide (tl s (p'-1)=tl s A[j])&&(A.take row).contains p'):=by
   have l1:(List.range (s.length+1)).countP (fun p=>decide (tl s p=tl s A[j])&&decide (¬ p=s.length)&&(A.take row).contains (p+1))=(List.range s.length).countP (fun p=>decide (tl s p=tl s A[j])&&(A.take row).contains (p+1)):=by
    rw[List.range_succ,List.countP_append,List.countP_singleton,if_neg (by simp),Nat.add_zero];refine List.countP_congr fun q hqr=>?_
    have hql:=List.mem_range.1 hqr;have: ¬ q=s.length:=by omega
    simp[this]
   rw[l1,countP_range_succ,if_neg (by simp),Nat.zero_add];refine List.countP_congr fun q hqr=>?_
   simp
  rw[e2,<-h.perm.countP_eq];have e:A=A.take row++A.drop row:=(List.take_append_drop _ _).symm;have hnd:=A_nodup h;have hz:(A.drop row).countP (fun p'=>decide (p'≠0)&&decide (tl s (p'-1)=tl s A[j])&&(A.take row).contains p')=0:=by
   rw[List.countP_eq_zero];intro p' hp' hc';simp only[Bool.and_eq_true,List.contains_iff_mem] at hc';rw[e,List.nodup_append] at hnd;exact hnd.2.2 p' hc'.2 p' hp' rfl
  have e3:A.countP (fun p'=>decide (p'≠0)&&decide (tl s (p'-1)=tl s A[j])&&(A.take row).contains p')=(A.take row).countP (fun p'=>decide (p'≠0)&&decide (tl s (p'-1)=tl s A[j])&&(A.take row).contains p'):=by
   have:∀f:Nat->Bool,(A.drop row).countP f=0->A.countP f=(A.take row).countP f:=by
    intro f hf;have h1:(A.take row++A.drop row).countP f=A.countP f:=by rw[List.take_append_drop]
    rw[<-h1,List.countP_append,hf];rfl
   exact this _ hz
  rw[e3,<-List.countP_eq_length_filter];have e4:∀k,k<=A.length->(List.range k).countP (fun r=>decide (r≠pri A)&&decide (at_ (lst s A) (pri A) r=s[A[j]]))=(A.take k).countP (fun p'=>decide (p'≠0)&&decide (tl s (p'-1)=tl s A[j])):=by
   intro k
   induction k with
   |zero=>intro _;rfl
   |succ k ih =>
    intro hk;rw[List.range_succ,List.countP_append,ih (by omega),List.take_add_one,List.getElem?_eq_getElem (by omega),List.countP_append,List.countP_singleton];simp only[Option.toList_some,List.countP_singleton];congr 1;have hz:A[k]=0↔k=pri A:=by
     obtain⟨X,Y,e,hl,hX,hY⟩:=pri_at h;have e0:A[X.length]? =some 0:=by rw[e];simp
     have hx:X.length<A.length:=(List.getElem?_eq_some_iff.1 e0).1;have e0':A[X.length]=0:=(List.getElem?_eq_some_iff.1 e0).2;rw[<-hl]
     constructor
     ·intro hk0;exact(List.getElem_inj hnd).1 (hk0.trans e0'.symm)
     ·intro hk0;subst hk0;exact e0'
    by_cases hkp:k=pri A
    ·have:=hz.2 hkp
     subst hkp;simp[this]
    ·have hk0:A[k]≠0:=fun h0=>hkp (hz.1 h0)
     have hka:=(A_mem h A[k]).1 (List.getElem_mem (by omega));have hat:=at_lst h k (by omega) hkp;rw[hat,tl_lt hq,tl_lt (show A[k]-1<s.length by omega),List.getD_eq_getElem?_getD,List.getElem?_eq_getElem (show A[k]-1<s.length by omega),Option.getD_some];have hiff:(s[A[k]-1]=s[A[j]])↔(s[A[k]-1].toNat+1=s[A[j]].toNat+1):=by
      constructor
      ·intro e;rw[e]
      ·intro e;exact UInt8.toNat_inj.1 (by omega)
     simp[hkp,hk0,hiff]
  rw[e4 row (by omega)];refine List.countP_congr fun p' hp'=>?_
  simp only[Bool.and_eq_true,List.contains_iff_mem];exact⟨fun a=>⟨a,hp'⟩,fun a=>a.1⟩
theorem inv_lst (h:Sorted s A) (step:Nat->Nat) (hst:∀row,row<A.length->row≠pri A->step row=stp (lst s A) (pri A) row) :
  ∀(n row:Nat) (out:List UInt8),(hr:row<A.length)->A[row]=n->n<=s.length->out=s.drop n->inv (lst s A) (pri A) step n row out=some s:=by
 intro n;have hz:∀k (hk:k<A.length),A[k]=0↔k=pri A:=by
  intro k hk;obtain⟨X,Y,e,hl,hX,hY⟩:=pri_at h;have e0:A[X.length]? =some 0:=by rw[e];simp
  have hx:X.length<A.length:=(List.getElem?_eq_some_iff.1 e0).1;have e0':A[X.length]=0:=(List.getElem?_eq_some_iff.1 e0).2;rw[<-hl]
  constructor
  ·intro hk0;exact(List.getElem_inj (A_nodup h)).1 (hk0.trans e0'.symm)
  ·intro hk0;subst hk0;exact e0'
 induction n with
 |zero =>
  intro row out hr he _ ho;simp only[inv];rw[if_pos ((hz row hr).1 he),ho];rfl
 |succ n ih =>
  intro row out hr he hn ho;have hp:row≠pri A:=fun e=>by have:=(hz row hr).2 e;omega
  simp only[inv];rw[if_neg hp];obtain⟨j,hj,hje⟩:=List.mem_iff_getElem.1 ((A_mem h n).2 (by omega));rw[hst row hr hp,step_row h row j hr hj hp (by rw[he,hje])];refine ih j _ hj hje (by omega) ?_;rw[at_lst h row hr hp,he,Nat.add_sub_cancel,ho,List.getD_eq_getElem?_getD,List.getElem?_eq_getElem (show n<s.length by omega),List.drop_eq_getElem_cons (show n<s.length by omega)];rfl
theorem row0 (h:Sorted s A) (hz:0<A.length):A[0]=s.length:=by
 have:=row_count h 0 hz (fun p=>decide (p≠A[0])&&decide (p≠A[0])&&false) (by
  intro p hp;simp only[Bool.and_false,Bool.false_eq_true,false_iff];intro hl;obtain⟨i,hi,rfl⟩:=List.mem_iff_getElem.1 hp;rcases Nat.eq_zero_or_pos i with rfl|h0
  ·exact less_irrefl hl
  ·exact less_irrefl (less_trans hl (List.pairwise_iff_getElem.1 h.srt 0 i hz hi h0)))
 obtain⟨i,hi,hie⟩:=List.mem_iff_getElem.1 ((A_mem h s.length).2 (Nat.le_refl _));rcases Nat.eq_zero_or_pos i with rfl|h0
 ·exact hie
 ·exfalso
  have hl:=List.pairwise_iff_getElem.1 h.srt 0 i hz hi h0;rw[hie] at hl;simp only[less] at hl;rw[tl_ge (Nat.le_refl s.length)] at hl;have h1:=(A_mem h A[0]).1 (List.getElem_mem hz);rcases Nat.lt_or_ge A[0] s.length with h2|h2
  ·rw[tl_lt h2] at hl;omega
  ·have e:A[0]=s.length:=by omega
   rw[e] at hl;rcases hl with hl|hl
   ·omega
   ·exact less_irrefl hl.2
end
end Bw
end Go.Proofs.YtjligbmickfbdaaGreat
namespace Go.Proofs.YtjligbmickfbdaaGreat
namespace Bw
open Sx
section
variable {s:List UInt8} {A:List Nat}
theorem zero_iff (h:Sorted s A) (k:Nat) (hk:k<A.length):A[k]=0↔k=pri A:=by
 obtain⟨X,Y,e,hl,hX,hY⟩:=pri_at h;have e0:A[X.length]? =some 0:=by rw[e];simp
 have hx:X.length<A.length:=(List.getElem?_eq_some_iff.1 e0).1;have e0':A[X.length]=0:=(List.getElem?_eq_some_iff.1 e0).2;rw[<-hl]
 constructor
 ·intro hk0;exact(List.getElem_inj (A_nodup h)).1 (hk0.trans e0'.symm)
 ·intro hk0;subst hk0;exact e0'
theorem pri_lt (h:Sorted s A):pri A<A.length:=by
 obtain⟨X,Y,e,hl,hX,hY⟩:=pri_at h;rw[<-hl,e];simp
def lk (s:List UInt8) (A:List Nat) (k:Nat):List UInt8:=lst s (A.take k)
def pk (A:List Nat) (k:Nat):Nat:=if pri A<k then pri A else 0
theorem lk_zero:lk s A 0=[]:=rfl
theorem lk_step (k:Nat) (hk:k<A.length):lk s A (k+1)=if A[k]=0 then lk s A k else lk s A k++[s.getD (A[k]-1) 0]:=by
 unfold lk lst;rw[List.take_add_one,List.getElem?_eq_getElem hk,List.filter_append,List.map_append];by_cases h:A[k]=0
 ·rw[if_pos h];simp[h]
 ·rw[if_neg h];simp[h]
theorem lk_all:lk s A A.length=lst s A:=by unfold lk;rw[List.take_length]
theorem pk_step (h:Sorted s A) (k:Nat) (hk:k<A.length):pk A (k+1)=if A[k]=0 then k else pk A k:=by
 have:=zero_iff h k hk;unfold pk;by_cases h0:A[k]=0
 ·have:=this.1 h0
  rw[if_pos h0,if_pos (by omega)];omega
 ·rw[if_neg h0]
  have hne:k≠pri A:=fun e=>h0 (this.2 e)
  by_cases hlt:pri A<k
  ·rw[if_pos hlt,if_pos (by omega)]
  ·rw[if_neg hlt,if_neg (by omega)]
theorem pk_all (h:Sorted s A):pk A A.length=pri A:=by unfold pk;rw[if_pos (pri_lt h)]
theorem length_lk_le (k:Nat):(lk s A k).length<=k:=by
 unfold lk lst;rw[List.length_map];exact Nat.le_trans (List.length_filter_le _ _) (by simp;omega)
end
end Bw
end Go.Proofs.YtjligbmickfbdaaGreat
namespace Go.Proofs.YtjligbmickfbdaaGreat
namespace Bw
open Go.RowKit Sx
set_option maxHeartbeats 1600000 in
set_option maxRecDepth 100000 in
theorem forward_any (s:ByteArray) (w:World) (hs:s.size<=20000) :
  Calls Tryz.prog 21 #[.string s] w fun e w'=>∃arr,Sorted s.data.toList arr/\e=.returned (.tuple #[.string ⟨(lst s.data.toList arr).toArray⟩,.int .i64 (pri arr:Int),.int .i64 0])/\Below w.heap.size w w':=by
 have hcon:=array_any s w hs;have HC:=Lib.hid hcon;clear hcon
 go_enter Tryz.func21, Tryz.ntmps21
 go_wp2_with fail
 refine HC.out.mono ?_;rintro e1 w1 ⟨v,arr,rfl,hso,hown,hb1⟩;obtain⟨A,c,rfl,_,_,hr⟩:=hown.rd;have hal:arr.length=s.size+1:=by rw[A_len hso];rfl
 obtain⟨gA,rfl,_,_⟩:=hown.form0 (by rw[length_ints,hal];omega);rw[length_ints,hal] at hr;rw[length_ints,hal];have HSo:=Lib.hid hso;have HRd:Aside (Rd w1 w1.heap.size 1 (some ⟨gA,0,none⟩) (s.size+1) ((ints arr).map (Value.int .i64))):=hr;have HB1:Aside (Below w.heap.size w w1):=hb1;have HAl:=Lib.hid hal;have HLe:Hid (∀p∈arr,p<=s.size):=fun p hp=>(A_mem hso p).1 hp
 obtain⟨n,hn⟩:∃n,n=s.size:=⟨_,rfl⟩
 have HN:=Lib.hid hn;have hnb:n<=20000:=by omega
 clear hown hr hb1 hso hal HC hn;go_wp2_with (at_make;(refine makeB0 (n:=s.size) (by omega) (Nat.le_refl w1.heap.size) ?_);intro w2 hown2 hg2 hz2)
 have H0:Aside (OwnB w2 w1.heap.size (.slice (some ⟨w1.heap.size,0,none⟩) 0 s.size) (lk s.data.toList arr 0)/\Below w1.heap.size w1 w2):=⟨hown2,(Below.refl _ _).grown hg2 (Nat.le_refl _) (by simp)⟩
 clear hown2 hg2 hz2;go_wp2_with fail
 go_loopg [3,6,22] (s.size+1) (fun kx s3 s6 s22 wr=>∃(k:Nat),s22=.int .i64 (k:Int)/\s3=.int .i64 (pk arr k:Int)/\k<=s.size+1/\s.size+1-k<=kx/\Aside (OwnB wr w1.heap.size s6 (lk s.data.toList arr k)/\Below w1.heap.size w1 wr))
 case atStart=>exact⟨0,rfl,rfl,by omega,by omega,H0.out⟩
 case round =>
  clear H0;obtain⟨k,rfl,rfl,hk,hkx,H⟩:=hrel;by_cases hlt:k<s.size+1
  ·obtain⟨hown,hb⟩:=H.out
   have hrd:=HRd.out.below hb;obtain⟨ad,x,e1,had,hx,hcell⟩:=hrd.int1 (k:=k) hlt;cases e1
   rw[Addr.add_lit,Nat.zero_add] at hcell;have hka:k<arr.length:=by have:=HAl.out;omega
   rw[Sx.ints_at arr k hka,Option.some.injEq,getD_lt arr k hka] at hx;subst hx;have hle:=HLe.out arr[k] (List.getElem_mem _);have hst:=lk_step (s:=s.data.toList) (A:=arr) k hka;have hpk:=pk_step HSo.out k hka;have hll:=length_lk_le (s:=s.data.toList) (A:=arr) k;by_cases h0:arr[k]=0
   ·rw[if_pos h0] at hst hpk
    rw[h0] at hcell;have h9:=H.out;rw[<-hst] at h9;have HNX:Aside _:=h9;clear h9;have HPK:=Lib.hid hpk;clear hown hb hrd hst hpk H h0;go_wp2_with fail
    go_roundg (s.size+1-(k+1))
    case measure=>omega
    case rel=>exact⟨k+1,by go_num,by rw[HPK.out],by omega,by omega,HNX.out⟩
   ·rw[if_neg h0] at hst hpk
    obtain⟨q,hq⟩:∃q,arr[k]=q+1:=⟨arr[k]-1,by omega⟩
    rw[hq] at hcell hle hst;have hqs:q<s.size:=by omega
    have hgd:s.data.toList.getD (q+1-1) 0=s[q]:=by
     rw[Nat.add_sub_cancel,List.getD_eq_getElem?_getD,List.getElem?_eq_getElem (show q<s.data.toList.length from hqs)];rfl
    rw[hgd] at hst;have HST:=Lib.hid hst;have HPK:=Lib.hid hpk;have HBB:Aside (Below w1.heap.size w1 wr):=hb;clear hb hrd hst hpk H h0 hq hgd;go_wp2_with (at_builtin;refine appendB s[q] rfl hown (by omega) HBB.out.size ?_;intro A2 n2 c2 w3 hn2 hown2 hb2 hg2 hat2)
    have HNX:Aside (OwnB w3 w1.heap.size (.slice A2 n2 c2) (lk s.data.toList arr (k+1))/\Below w1.heap.size w1 w3):=by rw[HST.out];exact⟨hown2,HBB.out.trans hb2⟩
    clear hown hown2 hb2 hg2 hat2;go_roundg (s.size+1-(k+1))
    case measure=>omega
    case rel=>exact⟨k+1,by go_num,by rw[HPK.out],by omega,by omega,HNX.out⟩
  ·have HE:=H.out
   have e:k=arr.length:=by have:=HAl.out;omega
   rw[e,lk_all] at HE;obtain⟨A2,c2,rfl,_,_,hr2⟩:=HE.1.rd;have hs2:=run_str (c:=c2) hr2;have HPK:Hid (pk arr k=pri arr):=(by rw[e];exact pk_all HSo.out:pk arr k=pri arr)
   have HBB:Aside (Below w.heap.size w wr):=ext_trans HB1.out HE.2;clear HE H e hr2;go_wp2_with fail
   go_ret3
   refine⟨arr,HSo.out,?_,HBB.out⟩;rw[<-HPK.out];rfl
end Bw
end Go.Proofs.YtjligbmickfbdaaGreat
