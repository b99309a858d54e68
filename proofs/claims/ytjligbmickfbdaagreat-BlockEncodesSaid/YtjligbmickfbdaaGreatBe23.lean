/- Lengths as runs, and runs as bits: plain lists, no program. huff: symbols come back of their bytes; bytes that are cut, or have more behind them, are none's: plain lists, no program. -/
import Derived.Test.YtjligbmickfbdaaGreatBe04
import Derived.Test.YtjligbmickfbdaaGreatBe14
import Derived.Test.YtjligbmickfbdaaGreatBe22
namespace Go.Proofs.YtjligbmickfbdaaGreat
namespace Tb
open Bt
def flat (R:List (Int×Int)):List Int:=R.flatMap fun x=>List.replicate x.2.toNat x.1
def tb (R:List (Int×Int)):List Bool:=R.flatMap fun x=>toB 4 x.1.toNat++gam x.2.toNat
def Good:Int->List (Int×Int)->Prop
 |_,[]=>True
 |last,x::r=>x.1≠last/\0<=x.1/\x.1<=15/\1<=x.2/\Good x.1 r
def tg:Nat->Int->Nat->List Bool->Option (List Int×List Bool)
 |_,_,0,b=>some ([],b)
 |0,_,_+1,_=>none
 |f+1,last,left+1,b =>
  if b.length<4 then none
  else if(getGam (b.drop 4)).1≠0 then none
  else if(ofB (b.take 4):Int)=last then none
  else if left+1<(getGam (b.drop 4)).2.1 then none
  else match tg f (ofB (b.take 4):Int) (left+1-(getGam (b.drop 4)).2.1) (getGam (b.drop 4)).2.2 with
   |none=>none
   |some (l,r)=>some (List.replicate (getGam (b.drop 4)).2.1 (ofB (b.take 4):Int)++l,r)
theorem tg_tb:∀(R:List (Int×Int)) (last:Int) (f left:Nat) (b:List Bool),Good last R->(flat R).length=left->R.length<=f->left<=1000->tg f last left (tb R++b)=some (flat R,b)
 | [],last,f,left,b,_,hl,_,_=>by
   have:left=0:=by simpa[flat] using hl.symm
   subst this;cases f<;>rfl
 |x::R,last,f,left,b,hg,hl,hf,hb=>by
  obtain⟨h1,h2,h3,h4,h5⟩:=hg;obtain⟨f,rfl⟩:∃f',f=f'+1:=⟨f-1,by simp at hf;omega⟩
  have hfl:flat (x::R)=List.replicate x.2.toNat x.1++flat R:=rfl;have hlen:x.2.toNat+(flat R).length=left:=by rw[hfl] at hl;simpa using hl
  obtain⟨left,rfl⟩:∃l',left=l'+1:=⟨left-1,by omega⟩
  have htb:tb (x::R)++b=toB 4 x.1.toNat++(gam x.2.toNat++(tb R++b)):=by
   unfold tb;rw[List.flatMap_cons];simp
  have e1:(tb (x::R)++b).take 4=toB 4 x.1.toNat:=by rw[htb,List.take_left' (length_toB _ _)]
  have e2:(tb (x::R)++b).drop 4=gam x.2.toNat++(tb R++b):=by rw[htb,List.drop_left' (length_toB _ _)]
  have e3:getGam (gam x.2.toNat++(tb R++b))=(0,x.2.toNat,tb R++b):=getGam_gam _ (by omega) (by omega) _;have e4:((ofB (toB 4 x.1.toNat):Nat):Int)=x.1:=by rw[ofB_toB_lt 4 _ (by omega)];omega
  have e5: ¬ (tb (x::R)++b).length<4:=by rw[htb,List.length_append,length_toB];omega
  have ih:=tg_tb R x.1 f (left+1-x.2.toNat) b h5 (by omega) (by simp at hf;omega) (by omega);rw[tg,if_neg e5,e1,e2,e3,e4];simp only;rw[if_neg (by simp),if_neg h1,if_neg (by omega),ih,hfl]
def stepR (R:List (Int×Int)) (n:Int):List (Int×Int) :=
 match R.getLast? with
 |some (y,k)=>if y=n then R.dropLast++[(y,k+1)] else R++[(n,1)]
 |none=>R++[(n,1)]
def runs (l:List Int):List (Int×Int):=l.foldl stepR []
theorem good_snoc:∀(R:List (Int×Int)) (last n:Int),Good last R->(∀y∈R.getLast?,y.1≠n)->(R=[]->n≠last)->0<=n->n<=15->Good last (R++[(n,1)])
 | [],last,n,_,_,h0,h1,h2=>⟨h0 rfl,h1,h2,by simp,trivial⟩
 | [x],last,n,⟨a,b,c,d,_⟩,h,_,h1,h2=>⟨a,b,c,d,fun e=>h x (by simp) e.symm,h1,h2,by simp,trivial⟩
 |x::y::R,last,n,⟨a,b,c,d,g⟩,h,_,h1,h2=>⟨a,b,c,d,good_snoc (y::R) x.1 n g (by simpa using h) (by simp) h1 h2⟩
theorem good_more:∀(R:List (Int×Int)) (last y k:Int),Good last (R++[(y,k)])->Good last (R++[(y,k+1)])
 | [],last,y,k,⟨a,b,c,d,_⟩=>⟨a,b,c,by show 1<=k+1;have:1<=k:=d;omega,trivial⟩
 |x::R,last,y,k,⟨a,b,c,d,g⟩=>⟨a,b,c,d,good_more R x.1 y k g⟩
theorem good_last:∀(R:List (Int×Int)) (last y k:Int),Good last (R++[(y,k)])->1<=k
 | [],_,_,_,⟨_,_,_,d,_⟩=>d
 |x::R,_,y,k,⟨_,_,_,_,g⟩=>good_last R x.1 y k g
theorem flat_append (a b:List (Int×Int)):flat (a++b)=flat a++flat b:=List.flatMap_append ..
theorem stepR_good (R:List (Int×Int)) (n:Int) (h:Good (-1) R) (h1:0<=n) (h2:n<=15):Good (-1) (stepR R n)/\flat (stepR R n)=flat R++[n]:=by
 unfold stepR;rcases hl:R.getLast? with _|⟨y,k⟩
 ·have:R=[]:=List.getLast?_eq_none_iff.1 hl
  subst this;exact⟨⟨by show n≠ -1;omega,h1,h2,by simp,trivial⟩,by simp[flat]⟩
 ·obtain⟨R',hR⟩:=List.getLast?_eq_some_iff.1 hl
  subst hR;simp only;split
  ·rename_i e
   subst e;rw[List.dropLast_concat];refine⟨good_more R' _ _ _ h,?_⟩;have hk:=good_last R' _ _ _ h;rw[flat_append,flat_append,List.append_assoc];congr 1;simp only[flat,List.flatMap_cons,List.flatMap_nil,List.append_nil];rw[show(k+1).toNat=k.toNat+1 by omega,List.replicate_succ']
  ·rename_i e
   refine⟨good_snoc _ _ _ h (by intro z hz;simp at hz;subst hz;exact e) (by simp) h1 h2,?_⟩;rw[flat_append];simp[flat]
theorem runs_good (l:List Int) (h:∀x∈l,0<=x/\x<=15):Good (-1) (runs l)/\flat (runs l)=l:=by
 have:∀(l:List Int) (R:List (Int×Int)),Good (-1) R->(∀x∈l,0<=x/\x<=15)->Good (-1) (l.foldl stepR R)/\flat (l.foldl stepR R)=flat R++l:=by
  intro l
  induction l with
  |nil=>intro R hR _;exact⟨hR,by simp⟩
  |cons x r ih =>
   intro R hR hx;obtain⟨a,b⟩:=stepR_good R x hR (hx x (by simp)).1 (hx x (by simp)).2;obtain⟨c,d⟩:=ih (stepR R x) a (fun y hy=>hx y (by simp[hy]));exact⟨c,by rw[List.foldl_cons,d,b];simp⟩
 have:=this l [] trivial h;refine⟨this.1,?_⟩;have h2:=this.2;rw[show flat []=[] from rfl,List.nil_append] at h2;exact h2
theorem length_le_flat:∀(R:List (Int×Int)) (last:Int),Good last R->R.length<=(flat R).length
 | [],_,_=>by simp
 |x::R,last,⟨_,_,_,d,g⟩=>by
  have ih:=length_le_flat R x.1 g;have e:flat (x::R)=List.replicate x.2.toNat x.1++flat R:=rfl;rw[e,List.length_append,List.length_replicate,List.length_cons];omega
theorem tab_back (l:List Int) (h:∀x∈l,0<=x/\x<=15) (hl:l.length<=1000) (b:List Bool):tg l.length (-1) l.length (tb (runs l)++b)=some (l,b):=by
 obtain⟨hg,hf⟩:=runs_good l h;have hr:(runs l).length<=l.length:=by have:=length_le_flat (runs l) (-1) hg;rwa [hf] at this
 have:=tg_tb (runs l) (-1) l.length l.length b hg (by rw[hf]) hr hl
 rwa [hf] at this
end Tb
end Go.Proofs.YtjligbmickfbdaaGreat
namespace Go.Proofs.YtjligbmickfbdaaGreat
namespace Tb
open Bt
theorem getGam_more (b t:List Bool) (h:(getGam b).1=0):(getGam (b++t)).1=0/\(getGam (b++t)).2.1=(getGam b).2.1/\(getGam (b++t)).2.2=(getGam b).2.2++t:=by
 unfold getGam at h;split at h;·simp at h
 rename_i h1
 split at h;·simp at h
 rename_i h2
 split at h;·simp at h
 rename_i h3
 split at h;·simp at h
 rename_i h4
 have hlt:nz b<b.length:=by have:=nz_le b;omega
 have hz:nz (b++t)=nz b:=by
  have e:∀(b:List Bool),nz b<b.length->nz (b++t)=nz b:=by
   intro b
   induction b with
   |nil=>intro h;simp at h
   |cons x b ih =>
    intro h;cases x
    ·have e1:∀r:List Bool,nz (false::r)=1+nz r:=fun r=>by have:=nz_replicate 1 r;simpa using this
     rw[List.cons_append,e1,e1,ih (by rw[e1,List.length_cons] at h;omega)]
    ·rw[List.cons_append,nz_true,nz_true]
  exact e b hlt
 have e0:getGam b=(0,ofB ((b.drop (nz b)).take (nz b+1)),b.drop (2*nz b+1)):=by
  unfold getGam;rw[if_neg h1,if_neg h2,if_neg h3,if_neg h4]
 have e1:getGam (b++t)=(0,ofB (((b++t).drop (nz b)).take (nz b+1)),(b++t).drop (2*nz b+1)):=by
  unfold getGam;rw[hz,List.length_append,if_neg (by omega),if_neg (by omega),if_neg h3,if_neg (by omega)]
 rw[e0,e1];refine⟨rfl,?_,?_⟩
 ·simp only
  rw[List.drop_append_of_le_length (by omega),List.take_append_of_le_length (by simp;omega)]
 ·simp only
  rw[List.drop_append_of_le_length (by omega)]
theorem tg_more:∀(f:Nat) (last:Int) (left:Nat) (b:List Bool) (l:List Int) (r t:List Bool),tg f last left b=some (l,r)->tg f last left (b++t)=some (l,r++t)
 |f,last,0,b,l,r,t,h=>by
  simp only[tg,Option.some.injEq,Prod.mk.injEq] at h ⊢;obtain⟨rfl,rfl⟩:=h;exact⟨rfl,rfl⟩
 |0,last,left+1,b,l,r,t,h=>by simp[tg] at h
 |f+1,last,left+1,b,l,r,t,h=>by
  simp only[tg] at h ⊢;split at h;·simp at h
  rename_i h1
  split at h;·simp at h
  rename_i h2
  split at h;·simp at h
  rename_i h3
  split at h;·simp at h
  rename_i h4
  have hg:=getGam_more (b.drop 4) t (by simpa using h2);rw[List.length_append,if_neg (by omega),List.drop_append_of_le_length (by omega),if_neg (by simpa using hg.1),List.take_append_of_le_length (by omega),if_neg h3,hg.2.1,if_neg h4,hg.2.2];split at h;·simp at h
  rename_i l1 r1 h5
  simp only[Option.some.injEq,Prod.mk.injEq] at h;obtain⟨rfl,rfl⟩:=h;rw[tg_more f _ _ _ l1 r1 t h5]
end Tb
namespace Hf
open Bt Cn
def lns (syms:List Int):List Int:=Ln.bestL (cts syms) 15
def hb (syms:List Int):List Bool:=Tb.tb (Tb.runs (lns syms))++enc (lns syms) syms
def hd (b:List Bool) (k:Nat):Option (List Int) :=
 match Tb.tg 257 (-1) 257 b with
 |none=>none
 |some (l,r)=>if checkE l=0 then(match getN l k r with
  |none=>none
  |some (s,r')=>if doneB r'=true then some s else none) else none
theorem cts_pos:∀(syms:List Int) (s:Int),s∈syms->syms.all okS=true-> ∃h:s.toNat<(cts syms).length,0<(cts syms)[s.toNat]:=by
 intro syms s hs hall;have key:∀(syms:List Int) (l:List Int),l.length=257->(∀x∈l,0<=x)->syms.all okS=true-> ∀i,i<257->(0<l.getD i 0∨(i:Int)∈syms)->0<(syms.foldl (fun l s=>incI l s.toNat) l).getD i 0:=by
  intro syms
  induction syms with
  |nil=>intro l _ _ _ i _ h;rcases h with h|h
        ·exact h
        ·simp at h
  |cons x r ih =>
   intro l hl h0 hall i hi h;simp only[List.all_cons,Bool.and_eq_true] at hall;rw[List.foldl_cons];have hx:0<=x/\x<257:=by simpa[okS] using hall.1
   refine ih (incI l x.toNat) (by rw[length_incI,hl]) ?_ hall.2 i hi ?_
   ·intro y hy
    unfold incI at hy;rcases List.mem_or_eq_of_mem_set hy with hy|rfl
    ·exact h0 y hy
    ·rw[List.getD_eq_getElem?_getD,List.getElem?_eq_getElem (by omega),Option.getD_some]
     have:=h0 _ (List.getElem_mem (l:=l) (n:=x.toNat) (by omega));omega
   ·by_cases hix:i=x.toNat
    ·left
     subst hix;unfold incI;rw[List.getD_eq_getElem?_getD,List.getElem?_set_self (by omega),Option.getD_some,List.getD_eq_getElem?_getD,List.getElem?_eq_getElem (by omega),Option.getD_some];have:=h0 _ (List.getElem_mem (l:=l) (n:=x.toNat) (by omega));omega
    ·rcases h with h|h
     ·left
      unfold incI;rw[List.getD_eq_getElem?_getD,List.getElem?_set_ne (fun e=>hix e.symm),<-List.getD_eq_getElem?_getD];exact h
     ·rcases List.mem_cons.1 h with h|h
      ·exfalso;omega
      ·exact .inr h
 have ho:0<=s/\s<257:=by simpa[okS] using List.all_eq_true.1 hall s hs
 have h1:s.toNat<(cts syms).length:=by rw[length_cts];omega
 refine⟨h1,?_⟩;have:=key syms (List.replicate 257 0) List.length_replicate (fun x hx=>by rw[List.eq_of_mem_replicate hx];omega) hall s.toNat (by omega) (.inr (by rw[Int.toNat_of_nonneg ho.1];exact hs))
 change 0<(cts syms).getD s.toNat 0 at this
 rwa [List.getD_eq_getElem?_getD,List.getElem?_eq_getElem h1] at this
theorem cts_len (syms:List Int):(Ln.lv 0 (cts syms)).length<=2^15:=by
 have:=Ln.length_lv (cts syms) 0;rw[length_cts] at this;exact Nat.le_trans this (by decide)
theorem lns_good (syms:List Int):Ln.Good (cts syms) (lns syms) 15:=Ln.good_best (cts syms) 15 (by omega) (by omega) (cts_len syms)
theorem length_lns (syms:List Int):(lns syms).length=257:=by rw[(lns_good syms).len,length_cts]
theorem kr_zero:∀(n:Nat),((List.replicate n (0:Int)).map kr).sum=0:=by
 intro n;induction n with
 |zero=>rfl
 |succ n ih=>rw[List.replicate_succ,List.map_cons,List.sum_cons,ih];rfl
theorem one_set (n i:Nat) (hi:i<n):(((List.replicate n (0:Int)).set i 1).map kr).sum=16384/\us ((List.replicate n (0:Int)).set i 1)=1:=by
 induction n generalizing i with
 |zero=>omega
 |succ n ih =>
  rcases i with _|i
  ·rw[List.replicate_succ,List.set_cons_zero,List.map_cons,List.sum_cons,kr_zero]
   refine⟨rfl,?_⟩;unfold us;rw[List.countP_cons_of_pos (by simp),List.countP_eq_zero.2 (fun x hx=>by rw[List.eq_of_mem_replicate hx];simp)]
  ·obtain⟨h1,h2⟩:=ih i (by omega)
   rw[List.replicate_succ,List.set_cons_succ,List.map_cons,List.sum_cons,h1];refine⟨rfl,?_⟩;unfold us at *
   rw[List.countP_cons_of_neg (by simp),h2]
theorem lns_sum (syms:List Int):((lns syms).map kr).sum=0∨((lns syms).map kr).sum=32768∨(((lns syms).map kr).sum=16384/\us (lns syms)=1):=by
 by_cases hn:(St.stab Ln.wt (Ln.lv 0 (cts syms))).length<2
 ·rcases Ln.best_few (cts syms) 15 hn with ⟨_,h⟩|⟨i,hi,_,_,h⟩
  ·left
   unfold lns;rw[h,kr_zero]
  ·right;right
   unfold lns;rw[h];exact one_set _ _ hi
 ·right;left
  exact(Ln.best_many (cts syms) 15 (by omega) (by omega) (by omega) (by rw[(St.stab_perm Ln.wt (Ln.lv 0 (cts syms))).length_eq];exact cts_len syms)).2
theorem check_lns (syms:List Int):checkE (lns syms)=0:=by
 have hg:=lns_good syms;have hs:=lns_sum syms;unfold checkE;rw[length_lns,if_neg (by omega),if_neg,if_pos]
 ·unfold sumOk half
  rcases hs with h|h|⟨h1,h2⟩
  ·simp[h]
  ·simp[h]
  ·simp[h1,h2]
 ·intro h
  obtain⟨x,hx,hb⟩:=List.any_eq_true.1 h;have:=hg.rng x hx;simp[bad] at hb;omega
theorem ok_check {l:List Int} (h:checkE l=0):Ok l/\l.length<=257:=by
 unfold checkE at h;split at h;·simp at h
 rename_i h1
 split at h;·simp at h
 rename_i h2
 split at h
 ·rename_i h3
  refine⟨⟨fun x hx=>?_,?_⟩,by omega⟩
  ·have:bad x=false:=by
    cases hb:bad x
    ·rfl
    ·exact absurd (List.any_eq_true.2 ⟨x,hx,hb⟩) h2
   simp[bad] at this;omega
  ·simp[sumOk,half] at h3;omega
 ·simp at h
theorem hd_hb (syms:List Int) (hall:syms.all okS=true) (r:List Bool) (hr:doneB r=true):hd (hb syms++r) syms.length=some syms:=by
 have hg:=lns_good syms;have hl:=length_lns syms;have h0:=check_lns syms;have ht:=Tb.tab_back (lns syms) hg.rng (by omega) (enc (lns syms) syms++r);rw[hl] at ht;unfold hd hb;rw[List.append_assoc,ht];simp only;rw[if_pos h0,getN_enc (lns syms) (ok_check h0).1 syms r ?_]
 ·simp only;rw[if_pos hr]
 ·intro s hs
  have ho:0<=s/\s<257:=by simpa[okS] using List.all_eq_true.1 hall s hs
  refine⟨ho.1,by omega,?_⟩;obtain⟨h1,h2⟩:=cts_pos syms s hs hall;have:=(hg.used s.toNat h1).2 h2
  rwa [List.getD_eq_getElem?_getD,List.getElem?_eq_getElem (by omega)] at this
theorem hd_more (b t:List Bool) (k:Nat) (s:List Int) (h:hd b k=some s) (ht:8<=t.length):hd (b++t) k=none:=by
 unfold hd at h ⊢;split at h;·simp at h
 rename_i l r h1
 rw[Tb.tg_more _ _ _ _ l r t h1];simp only;split at h
 ·rename_i h2
  rw[if_pos h2];split at h;·simp at h
  rename_i s' r' h3
  rw[getN_more l k r s' r' t h3];simp only;rw[if_neg];have hl:(r'++t).length≠0/\ ¬ (r'++t).length<8:=by rw[List.length_append];omega
  unfold doneB;rw[decide_eq_false hl.1,decide_eq_false hl.2];simp
 ·simp at h
theorem bits_append (a b:List UInt8):Bt.bits (a++b)=Bt.bits a++Bt.bits b:=List.flatMap_append ..
theorem doneB_replicate (n:Nat) (h:n<8):doneB (List.replicate n false)=true:=by
 have:=nz_replicate n [];rw[List.append_nil] at this;have h2:nz ([]:List Bool)=0:=rfl;unfold doneB;rw[List.length_replicate,this,h2,Nat.add_zero];simp[h]
def hbyt (syms:List Int):List UInt8:=byt (hb syms)
theorem back (syms:List Int) (hall:syms.all okS=true):hd (Bt.bits (hbyt syms)) syms.length=some syms:=by
 unfold hbyt;rw[bits_byt _ _ rfl];exact hd_hb syms hall _ (doneB_replicate _ (Nat.mod_lt _ (by omega)))
theorem behind (syms:List Int) (hall:syms.all okS=true) (t:List UInt8) (ht:t≠ []):hd (Bt.bits (hbyt syms++t)) syms.length=none:=by
 rw[bits_append];refine hd_more _ _ _ _ (back syms hall) ?_;rw[length_bits];have:=List.length_pos_iff.2 ht;omega
theorem cut (syms:List Int) (hall:syms.all okS=true) (a:List UInt8) (c:UInt8) (h:a++[c]=hbyt syms):hd (Bt.bits a) syms.length=none:=by
 rcases hq:hd (Bt.bits a) syms.length with _|s
 ·rfl
 ·have h1:=hd_more _ (Bt.bits [c]) _ s hq (by simp[length_bits])
  rw[<-bits_append,h,back syms hall] at h1;simp at h1
theorem hb_pos (syms:List Int):5<=(hb syms).length:=by
 have hg:=Tb.runs_good (lns syms) (lns_good syms).rng;have hl:=length_lns syms;unfold hb;rw[List.length_append];rcases h:Tb.runs (lns syms) with _|⟨x,R⟩
 ·rw[h] at hg
  have:=congrArg List.length hg.2;simp[Tb.flat,hl] at this
 ·rw[h] at hg
  have hx:=hg.1.2.2.2.1;have e:Tb.tb (x::R)=(toB 4 x.1.toNat++gam x.2.toNat)++Tb.tb R:=rfl;rw[e,List.length_append,List.length_append,length_toB,length_gam _ (by omega)];have:=(bl_spec x.2.toNat (by omega)).2.2;omega
theorem hbyt_pos (syms:List Int):1<=(hbyt syms).length:=by
 have:=hb_pos syms;unfold hbyt;rw[length_byt];omega
end Hf
end Go.Proofs.YtjligbmickfbdaaGreat
