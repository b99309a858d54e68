/- bwt.may, bwt.at. Words by their lengths: what package canon computes, and that words come back: plain lists, no program. What lens.Check, bits.Done and huff.Counts tell: plain lists, no program. -/
import Derived.Test.YtjligbmickfbdaaGreatBe13
import Derived.Test.YtjligbmickfbdaaGreatBe04
namespace Go.Proofs.YtjligbmickfbdaaGreat
namespace Bw
open Go.RowKit Sx
def mayB (n:Nat) (pr:Int):Bool:=if n=0 then decide (pr=0) else decide (1<=pr)&&decide (pr<=n)
set_option maxHeartbeats 1600000 in
set_option maxRecDepth 100000 in
theorem at_any (s:ByteArray) (pr row:Nat) (w:World) (hs:s.size<=1000000) (hpr:pr<=1000000) (hr:row<=s.size) (h:(if pr<row then row-1 else row)<s.size) :
  Calls Tryz.prog 122 #[.string s,.int .i64 (pr:Int),.int .i64 (row:Int)] w fun e w'=>e=.returned (.int .u8 ((at_ s.data.toList pr row).toNat:Int))/\w=w':=by
 by_cases hlt:pr<row
 ·rw[if_pos hlt] at h
  obtain⟨q,rfl⟩:∃q,row=q+1:=⟨row-1,by omega⟩
  rw[Nat.add_sub_cancel] at h;have ha:at_ s.data.toList pr (q+1)=s[q]:=by
   unfold at_;rw[if_pos hlt,Nat.add_sub_cancel,List.getD_eq_getElem?_getD,List.getElem?_eq_getElem (show q<s.data.toList.length from h)];rfl
  have HA:=Lib.hid ha;clear ha
  go_enter Tryz.func122, Tryz.ntmps122
  go_wp2
  go_ret
  rw[HA.out];exact⟨rfl,rfl⟩
 ·rw[if_neg hlt] at h
  have ha:at_ s.data.toList pr row=s[row]:=by
   unfold at_;rw[if_neg hlt,List.getD_eq_getElem?_getD,List.getElem?_eq_getElem (show row<s.data.toList.length from h)];rfl
  have HA:=Lib.hid ha;clear ha
  go_enter Tryz.func122, Tryz.ntmps122
  go_wp2
  go_ret
  rw[HA.out];exact⟨rfl,rfl⟩
set_option maxHeartbeats 1600000 in
set_option maxRecDepth 100000 in
theorem may_any (s:ByteArray) (pr:Int) (w:World) (hs:s.size<=1000000) :
  Calls Tryz.prog 142 #[.string s,.int .i64 pr] w fun e w'=>e=.returned (.bool (mayB s.size pr))/\w=w':=by
 by_cases h0:s.size=0
 ·have hm:mayB s.size pr=decide (pr=0):=if_pos h0
  have HM:=Lib.hid hm;have he:s=⟨#[]⟩:=by
   apply ByteArray.ext
   exact Array.eq_empty_of_size_eq_zero h0
  subst he;have hb:(pr==0)=decide (pr=0):=by
   by_cases h:pr=0
   ·subst h;rfl
   ·rw[decide_eq_false h,beq_eq_false_iff_ne];exact h
  clear hm
  go_enter Tryz.func142, Tryz.ntmps142
  go_wp2
  go_ret
  rw[HM.out];exact⟨rfl,rfl⟩
 ·have hm:mayB s.size pr=(decide (1<=pr)&&decide (pr<=(s.size:Int))):=if_neg h0
  have HM:=Lib.hid hm;have hne:s.toList.isEmpty=false:=by
   rw[ByteArray.toList_eq];rcases hl:s.data.toList with _|⟨x,r⟩
   ·exfalso
    have:s.data.toList.length=s.size:=rfl;rw[hl] at this;exact h0 this.symm
   ·rfl
  clear hm;by_cases h1:1<=pr
  ·go_enter Tryz.func142, Tryz.ntmps142
   go_wp2
   go_ret
   rw[HM.out,decide_eq_true h1,Bool.true_and];exact⟨rfl,rfl⟩
  ·go_enter Tryz.func142, Tryz.ntmps142
   go_wp2
   go_ret
   rw[HM.out,decide_eq_false (by omega),Bool.false_and];exact⟨rfl,rfl⟩
end Bw
end Go.Proofs.YtjligbmickfbdaaGreat
namespace Go.Proofs.YtjligbmickfbdaaGreat
namespace Cn
open Bt
def cn (l:List Int) (n:Nat):Nat:=if n=0 then 0 else l.countP fun x=>decide (x=(n:Int))
def fs (l:List Int):Nat->Nat
 |0=>0
 |n+1=>(fs l n+cn l n)*2
def pl (l:List Int):Nat->Nat
 |0=>0
 |n+1=>pl l n+cn l n
def rk (l:List Int) (s n:Nat):Nat:=cn (l.take s) n
def so (l:List Int) (N:Nat):Nat->List Int
 |0=>List.replicate N 0
 |k+1=>if l.getD k 0<=0 then so l N k else(so l N k).set (pl l (l.getD k 0).toNat+rk l k (l.getD k 0).toNat) (k:Int)
def us (l:List Int):Nat:=l.countP fun x=>decide (0<x)
def kr (x:Int):Nat:=if 0<x then 2^(15-x.toNat) else 0
def wd (l:List Int) (s:Nat):Nat:=fs l (l.getD s 0).toNat+rk l s (l.getD s 0).toNat
structure Ok (l:List Int):Prop where
 rng:∀x∈l,0<=x/\x<=15
 room:(l.map kr).sum<=32768
theorem cn_take_le (l:List Int) (s n:Nat):cn (l.take s) n<=cn l n:=by
 unfold cn;split
 ·omega
 ·exact(List.take_sublist s l).countP_le
theorem rk_succ (l:List Int) (s n:Nat) (hs:s<l.length):rk l (s+1) n=rk l s n+if n≠0/\l[s]=(n:Int) then 1 else 0:=by
 unfold rk cn;by_cases hn:n=0
 ·simp[hn]
 ·rw[if_neg hn,if_neg hn,List.take_add_one,List.getElem?_eq_getElem hs,List.countP_append]
  simp only[Option.toList_some,List.countP_singleton,decide_eq_true_eq];simp[hn]
theorem rk_lt (l:List Int) (s n:Nat) (hs:s<l.length) (hn:n≠0) (h:l[s]=(n:Int)):rk l s n<cn l n:=by
 have h1:=rk_succ l s n hs;rw[if_pos ⟨hn,h⟩] at h1;have:=cn_take_le l (s+1) n;unfold rk at *
 omega
theorem rk_mono (l:List Int) (n:Nat):∀(s t:Nat),s<=t->t<=l.length->rk l s n<=rk l t n:=by
 intro s t h ht;unfold rk;have:=cn_take_le (l.take t) s n
 rwa [List.take_take,Nat.min_eq_left h] at this
theorem fs_up (l:List Int) (w:Nat):∀(d:Nat),(fs l w+cn l w)*2^d<=fs l (w+d)+cn l (w+d)/\(0<d->(fs l w+cn l w)*2^d<=fs l (w+d))
 |0=>by simp
 |d+1=>by
  have ih:=(fs_up l w d).1;have e:fs l (w+(d+1))=(fs l (w+d)+cn l (w+d))*2:=rfl;rw[e,Nat.pow_succ,<-Nat.mul_assoc];refine⟨?_,fun _=>?_⟩<;>omega
theorem room_split (l:List Int) (h:∀x∈l,0<=x/\x<=15):∀(m:Nat),m<=15->((l.filter (fun x=>decide (x<=(m:Int)))).map kr).sum=(fs l m+cn l m)*2^(15-m)
 |0,_=>by
  have:∀(l:List Int),((l.filter (fun x=>decide (x<=((0:Nat):Int)))).map kr).sum=0:=by
   intro l
   induction l with
   |nil=>rfl
   |cons x r ih =>
    by_cases hx:x<=0
    ·rw[List.filter_cons_of_pos (by simpa using hx),List.map_cons,List.sum_cons,ih];simp[kr];omega
    ·rw[List.filter_cons_of_neg (by simpa using hx),ih]
  rw[this];simp[fs,cn]
 |m+1,hm=>by
  have ih:=room_split l h m (by omega);have key:∀(l:List Int),((l.filter (fun x=>decide (x<=((m+1:Nat):Int)))).map kr).sum=((l.filter (fun x=>decide (x<=(m:Int)))).map kr).sum+l.countP (fun x=>decide (x=((m+1:Nat):Int)))*2^(15-(m+1)):=by
   intro l
   induction l with
   |nil=>simp
   |cons x r ih =>
    rw[List.countP_cons];by_cases h1:x<=(m:Int)
    ·rw[List.filter_cons_of_pos (by simp only[decide_eq_true_eq];omega),List.filter_cons_of_pos (by simp only[decide_eq_true_eq];omega),List.map_cons,List.sum_cons,List.map_cons,List.sum_cons,ih,if_neg (by simp only[decide_eq_true_eq];omega)];simp only[Nat.add_zero];omega
    ·rw[List.filter_cons_of_neg (a:=x) (p:=fun x=>decide (x<=(m:Int))) (by simp only[decide_eq_true_eq];omega)]
     by_cases h2:x=((m+1:Nat):Int)
     ·rw[List.filter_cons_of_pos (by simp only[decide_eq_true_eq];omega),List.map_cons,List.sum_cons,ih,if_pos (by simp only[decide_eq_true_eq];omega)]
      have:kr x=2^(15-(m+1)):=by unfold kr;rw[if_pos (by omega),h2,Int.toNat_natCast]
      rw[this,Nat.add_mul];omega
     ·rw[List.filter_cons_of_neg (by simp only[decide_eq_true_eq];omega),ih,if_neg (by simp only[decide_eq_true_eq];omega)];simp only[Nat.add_zero]
  rw[key,ih];have e:fs l (m+1)=(fs l m+cn l m)*2:=rfl;have e2:cn l (m+1)=l.countP (fun x=>decide (x=((m+1:Nat):Int))):=by unfold cn;rw[if_neg (by omega)]
  rw[e,e2,show 15-m=(15-(m+1))+1 by omega,Nat.pow_succ];generalize 2^(15-(m+1))=q;generalize fs l m+cn l m=y;rw[Nat.add_mul,Nat.mul_assoc,Nat.mul_comm 2]
theorem fits (l:List Int) (h:Ok l) (n:Nat) (hn:n<=15):fs l n+cn l n<=2^n:=by
 have h1:=room_split l h.rng n hn;have h2:((l.filter (fun x=>decide (x<=(n:Int)))).map kr).sum<=(l.map kr).sum:=by
  have:∀(l:List Int),((l.filter (fun x=>decide (x<=(n:Int)))).map kr).sum<=(l.map kr).sum:=by
   intro l
   induction l with
   |nil=>simp
   |cons x r ih =>
    rw[List.map_cons,List.sum_cons];by_cases hx:x<=(n:Int)
    ·rw[List.filter_cons_of_pos (by simpa using hx),List.map_cons,List.sum_cons];omega
    ·rw[List.filter_cons_of_neg (by simpa using hx)];omega
  exact this l
 rw[h1] at h2;have h3:=Nat.le_trans h2 h.room;have e:(32768:Nat)=2^n*2^(15-n):=by rw[<-Nat.pow_add,show n+(15-n)=15 by omega]
 rw[e] at h3;exact Nat.le_of_mul_le_mul_right h3 (Nat.two_pow_pos _)
theorem pl_le (l:List Int) (h:∀x∈l,0<=x/\x<=15):∀(m:Nat),pl l (m+1)<=us l/\pl l (m+1)=l.countP (fun x=>decide (0<x)&&decide (x<=(m:Int)))
 |0=>by
  have e:pl l (0+1)=0:=by simp[pl,cn]
  rw[e];refine⟨by omega,?_⟩
  symm
  rw[List.countP_eq_zero];intro x _;simp<;>omega
 |m+1=>by
  have ih:=(pl_le l h m).2;have e:pl l (m+1+1)=l.countP (fun x=>decide (0<x)&&decide (x<=((m+1:Nat):Int))):=by
   have e1:pl l (m+1+1)=pl l (m+1)+cn l (m+1):=rfl;have key:∀l:List Int,List.countP (fun x=>decide (0<x)&&decide (x<=(m:Int))) l+List.countP (fun x=>decide (x=((m+1:Nat):Int))) l=List.countP (fun x=>decide (0<x)&&decide (x<=((m+1:Nat):Int))) l:=by
    intro l
    induction l with
    |nil=>rfl
    |cons x r ih =>
     rw[List.countP_cons,List.countP_cons,List.countP_cons];have e3:(if(decide (0<x)&&decide (x<=(m:Int)))=true then 1 else 0)+(if decide (x=((m+1:Nat):Int))=true then 1 else 0)=if(decide (0<x)&&decide (x<=((m+1:Nat):Int)))=true then 1 else 0:=by
      simp only[Bool.and_eq_true,decide_eq_true_eq];split<;>split<;>split<;>omega
     omega
   rw[e1,ih,<-key l];unfold cn;rw[if_neg (by omega)]
  refine⟨?_,e⟩;rw[e];refine List.countP_mono_left fun x _ hx=>?_
  simp at hx ⊢;exact hx.1
theorem pl_step (l:List Int) (n:Nat):pl l (n+1)=pl l n+cn l n:=rfl
theorem pl_mono (l:List Int) (a:Nat):∀(d:Nat),pl l a<=pl l (a+d)
 |0=>Nat.le_refl _
 |d+1=>by have:=pl_mono l a d;rw[show a+(d+1)=(a+d)+1 by omega,pl_step];omega
theorem place_lt (l:List Int) (h:∀x∈l,0<=x/\x<=15) (s n:Nat) (hs:s<l.length) (hn:n≠0) (e:l[s]=(n:Int)):pl l n+rk l s n<us l:=by
 have:=rk_lt l s n hs hn e;have h1:=(pl_le l h n).1;rw[pl_step] at h1;omega
theorem place_ne (l:List Int) (s t n m:Nat) (hst:s<t) (ht:t<l.length) (hn:n≠0) (hm:m≠0) (hs':l[s]'(by omega)=(n:Int)) (ht':l[t]=(m:Int)):pl l n+rk l s n≠pl l m+rk l t m:=by
 have h1:=rk_lt l s n (by omega) hn hs';have h2:=rk_lt l t m ht hm ht';intro e;rcases Nat.lt_trichotomy n m with hlt|heq|hgt
 ·have:=pl_mono l (n+1) (m-(n+1))
  rw[show n+1+(m-(n+1))=m by omega,pl_step] at this;omega
 ·subst heq
  have h3:=rk_succ l s n (by omega);rw[if_pos ⟨hn,hs'⟩] at h3;have:=rk_mono l n (s+1) t (by omega) (by omega);omega
 ·have:=pl_mono l (m+1) (n-(m+1))
  rw[show m+1+(n-(m+1))=n by omega,pl_step] at this;omega
theorem length_so (l:List Int) (N:Nat):∀k,(so l N k).length=N
 |0=>by simp[so]
 |k+1=>by
  simp only[so];split
  ·exact length_so l N k
  ·rw[List.length_set,length_so l N k]
theorem so_at (l:List Int) (h:∀x∈l,0<=x/\x<=15):∀(k s n:Nat),k<=l.length->s<k->(hs:s<l.length)->n≠0->l[s]=(n:Int)->(so l (us l) k)[pl l n+rk l s n]? =some (s:Int)
 |k+1,s,n,hk,hsk,hs,hn,e=>by
  have hkk:l.getD k 0=l[k]:=by rw[List.getD_eq_getElem?_getD,List.getElem?_eq_getElem (by omega)];rfl
  simp only[so,hkk];by_cases hks:s=k
  ·subst hks
   rw[if_neg (by omega),e,Int.toNat_natCast,List.getElem?_set_self (by rw[length_so];exact place_lt l h s n hs hn e)]
  ·split
   ·exact so_at l h k s n (by omega) (by omega) hs hn e
   ·rename_i hpos
    have hkn:l[k]=((l[k].toNat:Nat):Int):=by omega
    rw[List.getElem?_set_ne (fun e'=>place_ne l s k n l[k].toNat (by omega) (by omega) hn (by omega) e hkn e'.symm)];exact so_at l h k s n (by omega) (by omega) hs hn e
def fnd (l:List Int) (n w:Nat):Option Int:=if n<fs l w∨fs l w+cn l w<=n then none else(so l (us l) l.length)[pl l w+(n-fs l w)]?
def gw (l:List Int):Nat->Nat->List Bool->Option (Int×List Bool)
 |_,_,[]=>none
 |n,w,b::r=>if 15<w then none else
  match fnd l (2*n+b.toNat) w with
  |some s=>some (s,r)
  |none=>gw l (2*n+b.toNat) (w+1) r
theorem wd_lt (l:List Int) (h:Ok l) (s n:Nat) (hs:s<l.length) (hn:n≠0) (e:l[s]=(n:Int)):wd l s=fs l n+rk l s n/\wd l s<2^n/\n<=15:=by
 have h0:=h.rng l[s] (List.getElem_mem _);have h1:l.getD s 0=(n:Int):=by rw[List.getD_eq_getElem?_getD,List.getElem?_eq_getElem hs];exact e
 have h2:=rk_lt l s n hs hn e;have h3:=fits l h n (by omega);unfold wd;rw[h1,Int.toNat_natCast];exact⟨rfl,by omega,by omega⟩
theorem gw_word (l:List Int) (h:Ok l) (s n:Nat) (hs:s<l.length) (hn:n≠0) (e:l[s]=(n:Int)) (r:List Bool) :
  ∀(d w:Nat),w+d=n->0<d->gw l (wd l s/2^d) (w+1) (toB d (wd l s)++r)=some ((s:Int),r):=by
 obtain⟨e1,e2,hn15⟩:=wd_lt l h s n hs hn e;have h2:=rk_lt l s n hs hn e;intro d
 induction d with
 |zero=>intro w _ h0;omega
 |succ d ih =>
  intro w hw _;have hbit:2*(wd l s/2^(d+1))+(decide (wd l s/2^d%2=1)).toNat=wd l s/2^d:=by
   rw[Nat.pow_succ,<-Nat.div_div_eq_div_mul];have:wd l s/2^d%2=0∨wd l s/2^d%2=1:=by omega
   rcases this with h'|h'<;>simp[h']<;>omega
  simp only[toB,List.cons_append,gw];rw[if_neg (by omega),hbit];rcases Nat.eq_zero_or_pos d with rfl|hd
  ·have hwn:w+1=n:=by omega
   have:fnd l (wd l s/2^0) (w+1)=some (s:Int):=by
    unfold fnd;rw[Nat.pow_zero,Nat.div_one,hwn,if_neg (by omega),e1,Nat.add_sub_cancel_left];exact so_at l h.rng l.length s n (Nat.le_refl _) hs hs hn e
   rw[this];rfl
  ·have:fnd l (wd l s/2^d) (w+1)=none:=by
    unfold fnd;rw[if_pos]
    right
    have:=(fs_up l (w+1) d).2 hd;rw[show w+1+d=n by omega] at this;rw[Nat.le_div_iff_mul_le (Nat.two_pow_pos d)];omega
   rw[this];exact ih (w+1) (by omega) hd
theorem gw_more (l:List Int):∀(b:List Bool) (n w:Nat) (s:Int) (r t:List Bool),gw l n w b=some (s,r)->gw l n w (b++t)=some (s,r++t)
 | [],n,w,s,r,t,h=>by simp[gw] at h
 |x::b,n,w,s,r,t,h=>by
  simp only[List.cons_append,gw] at h ⊢;split at h
  ·simp at h
  ·rename_i hw
   rw[if_neg hw];split at h
   ·rename_i y hy
    simp at h
    obtain⟨rfl,rfl⟩:=h;simp
   ·exact gw_more l b _ _ s r t h
def enc (l:List Int) (syms:List Int):List Bool:=syms.flatMap fun s=>toB (l.getD s.toNat 0).toNat (wd l s.toNat)
def getN (l:List Int):Nat->List Bool->Option (List Int×List Bool)
 |0,b=>some ([],b)
 |k+1,b=>match gw l 0 1 b with
  |none=>none
  |some (s,r)=>match getN l k r with
   |none=>none
   |some (t,r')=>some (s::t,r')
theorem getN_enc (l:List Int) (h:Ok l):∀(syms:List Int) (r:List Bool),(∀s∈syms,0<=s/\ ∃hs:s.toNat<l.length,0<l[s.toNat])->getN l syms.length (enc l syms++r)=some (syms,r)
 | [],r,_=>rfl
 |s::t,r,hs=>by
  obtain⟨h0,hl,hp⟩:=hs s (by simp);have hr:=h.rng _ (List.getElem_mem hl);have e:l[s.toNat]=((l[s.toNat].toNat:Nat):Int):=by omega
  have e2:l.getD s.toNat 0=l[s.toNat]:=by rw[List.getD_eq_getElem?_getD,List.getElem?_eq_getElem hl];rfl
  obtain⟨_,hlt,_⟩:=wd_lt l h s.toNat l[s.toNat].toNat hl (by omega) e;have hg:=gw_word l h s.toNat l[s.toNat].toNat hl (by omega) e (enc l t++r) l[s.toNat].toNat 0 (by omega) (by omega);rw[Nat.div_eq_of_lt hlt] at hg;have hc:enc l (s::t)++r=toB l[s.toNat].toNat (wd l s.toNat)++(enc l t++r):=by
   unfold enc;rw[List.flatMap_cons,e2,List.append_assoc]
  rw[List.length_cons,getN,hc,hg];simp only;rw[getN_enc l h t r (fun x hx=>hs x (by simp[hx]))];simp only;rw[show((s.toNat:Nat):Int)=s by omega]
theorem getN_more (l:List Int):∀(k:Nat) (b:List Bool) (s:List Int) (r t:List Bool),getN l k b=some (s,r)->getN l k (b++t)=some (s,r++t)
 |0,b,s,r,t,h=>by simp[getN] at h ⊢;simp[h]
 |k+1,b,s,r,t,h=>by
  simp only[getN] at h ⊢;split at h
  ·simp at h
  ·rename_i x r1 h1
   rw[gw_more l b 0 1 x r1 t h1];simp only;split at h
   ·simp at h
   ·rename_i y r2 h2
    simp at h
    obtain⟨rfl,rfl⟩:=h;rw[getN_more l k r1 y r2 t h2]
end Cn
end Go.Proofs.YtjligbmickfbdaaGreat
namespace Go.Proofs.YtjligbmickfbdaaGreat
namespace Cn
def bad (x:Int):Bool:=decide (x<0)||decide (15<x)
def half (l:List Int):Bool:=decide (us l=1)&&decide ((l.map kr).sum=16384)
def sumOk (l:List Int):Bool:=decide ((l.map kr).sum=0)||decide ((l.map kr).sum=32768)||half l
def checkE (l:List Int):Int:=if 257<l.length then 3 else if l.any bad=true then 80 else if sumOk l=true then 0 else 80
end Cn
namespace Bt
def doneB (l:List Bool):Bool:=decide (l.length=0)||(decide (l.length<8)&&decide (nz l=l.length))
end Bt
namespace Hf
def incI (l:List Int) (s:Nat):List Int:=l.set s (l.getD s 0+1)
def cts (syms:List Int):List Int:=syms.foldl (fun l s=>incI l s.toNat) (List.replicate 257 0)
def okS (s:Int):Bool:=decide (0<=s)&&decide (s<257)
theorem length_incI (l:List Int) (s:Nat):(incI l s).length=l.length:=by simp[incI]
theorem length_foldl (syms:List Int):∀(l:List Int),(syms.foldl (fun l s=>incI l s.toNat) l).length=l.length:=by
 induction syms with
 |nil=>intro l;rfl
 |cons s r ih=>intro l;rw[List.foldl_cons,ih,length_incI]
theorem length_cts (syms:List Int):(cts syms).length=257:=by unfold cts;rw[length_foldl,List.length_replicate]
theorem cts_take (syms:List Int) (k:Nat) (h:k<syms.length):cts (syms.take (k+1))=incI (cts (syms.take k)) syms[k].toNat:=by
 unfold cts;rw[List.take_add_one,List.getElem?_eq_getElem h,List.foldl_append];rfl
theorem foldl_bd (syms:List Int):∀(l:List Int) (m:Int),0<=m->(∀x∈l,0<=x/\x<=m)-> ∀x∈syms.foldl (fun l s=>incI l s.toNat) l,0<=x/\x<=m+syms.length:=by
 induction syms with
 |nil=>intro l m _ h x hx;have:=h x hx;simp;omega
 |cons s r ih =>
  intro l m hm h x hx;rw[List.foldl_cons] at hx;have h2:∀x∈incI l s.toNat,0<=x/\x<=m+1:=by
   intro y hy;unfold incI at hy;rcases List.mem_or_eq_of_mem_set hy with hy|rfl
   ·have:=h y hy;omega
   ·rw[List.getD_eq_getElem?_getD]
    rcases hq:l[s.toNat]? with _|z
    ·simp;omega
    ·have:=h z (List.mem_of_getElem? hq);simp;omega
  have:=ih _ (m+1) (by omega) h2 x hx;simp only[List.length_cons];omega
theorem cts_bd (syms:List Int):∀x∈cts syms,0<=x/\x<=syms.length:=by
 intro x hx;have:=foldl_bd syms (List.replicate 257 0) 0 (by omega) (fun y hy=>by rw[List.eq_of_mem_replicate hy];omega) x hx;omega
def ctsE (l:List Int):Int:=if l.all okS=true then 0 else 70
def ctsL (l:List Int):List Int:=if l.all okS=true then cts l else[]
theorem ctsE_no (l:List Int) (h:l.all okS=false):ctsE l=70/\ctsL l=[]:=by unfold ctsE ctsL;rw[h];exact⟨rfl,rfl⟩
theorem ctsE_yes (l:List Int) (h:l.all okS=true):ctsE l=0/\ctsL l=cts l:=by unfold ctsE ctsL;rw[if_pos h,if_pos h];exact⟨rfl,rfl⟩
theorem all_take (l:List Int) (k:Nat) (h:k<l.length) (ha:(l.take k).all okS=true) (hp:okS l[k]=true):(l.take (k+1)).all okS=true:=by
 rw[List.take_add_one,List.getElem?_eq_getElem h,List.all_append,ha];simp[hp]
theorem all_no (l:List Int) (k:Nat) (h:k<l.length) (hp:okS l[k]=false):l.all okS=false:=by
 rw[List.all_eq_false];exact⟨l[k],List.getElem_mem h,by simp[hp]⟩
end Hf
end Go.Proofs.YtjligbmickfbdaaGreat
