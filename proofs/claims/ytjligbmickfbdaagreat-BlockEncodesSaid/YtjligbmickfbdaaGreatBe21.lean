/- Lengths of a code's words by packages: what lens.Best computes, and that the code is whole: plain lists, no program. -/
import Derived.Test.YtjligbmickfbdaaGreatBe20
namespace Go.Proofs.YtjligbmickfbdaaGreat
namespace Ln
open St
abbrev Thing:=Int×Int
def wt (x:Thing):Int:=x.1
def packs:Nat->List Thing->List Thing
 |i,x::y::r=>(x.1+y.1,-1-(i:Int))::packs (i+1) r
 |_,_=>[]
theorem length_packs:∀(i:Nat) (l:List Thing),(packs i l).length=l.length/2
 |_,[]=>by simp[packs]
 |_,[_]=>by simp[packs]
 |i,x::y::r=>by simp[packs,length_packs (i+1) r];omega
def rowsL (F:List Thing):Nat->List Thing
 |0=>F
 |i+1=>mrg wt F (packs 0 (rowsL F i))
def npk (l:List Thing):Nat:=(l.filter fun x=>decide (x.2<0)).length
section
variable {F:List Thing}
theorem mrg_mem {x:Thing} (L R:List Thing):x∈mrg wt L R↔x∈L∨x∈R:=by
 rw[(mrg_perm' wt L R).mem_iff,List.mem_append]
theorem packs_neg:∀(i:Nat) (l:List Thing),∀x∈packs i l,x.2<0
 |_,[],x,h=>by simp[packs] at h
 |_,[_],x,h=>by simp[packs] at h
 |i,a::b::r,x,h=>by
  simp only[packs,List.mem_cons] at h;rcases h with rfl|h
  ·show -1-(i:Int)<0;omega
  ·exact packs_neg (i+1) r x h
theorem packs_srt:∀(i:Nat) (l:List Thing),Srt wt l->Srt wt (packs i l)
 |_,[],_=>List.Pairwise.nil
 |_,[_],_=>List.Pairwise.nil
 |i,a::b::r,h=>by
  have ih:=packs_srt (i+1) r;unfold Srt at *
  rw[List.pairwise_cons,List.pairwise_cons] at h;simp only[packs];rw[List.pairwise_cons];refine⟨?_,ih h.2.2⟩;intro x hx;have:∀(j:Nat) (l:List Thing),(∀z∈l,wt a<=wt z/\wt b<=wt z)-> ∀x∈packs j l,wt (a.1+b.1,-1-(i:Int))<=wt x:=by
   intro j l
   induction j,l using packs.induct with
   |case1 j p q r ih1 =>
    intro hz x hx;simp only[packs,List.mem_cons] at hx;rcases hx with rfl|hx
    ·have h1:=hz p (by simp);have h2:=hz q (by simp)
     simp only[wt] at *;omega
    ·exact ih1 (fun z hz'=>hz z (by simp[hz'])) x hx
   |case2 l k hl =>
    intro _ x hx
    match l,hl,hx with
    | [],_,hx=>simp[packs] at hx
    | [_],_,hx=>simp[packs] at hx
    |p::q::r,hl,_=>exact(hl p q r rfl).elim
  exact this (i+1) r (fun z hz=>⟨h.1 z (by simp[hz]),h.2.1 z hz⟩) x hx
theorem packs_gt:∀(i:Nat) (l:List Thing) (_:∀x∈l,0<wt x) (m:Nat) (x:Thing),l[m]? =some x->m/2<(packs i l).length-> ∃y,(packs i l)[m/2]? =some y/\wt x<wt y
 |_,[],_,m,x,h,_=>by simp at h
 |_,[_],_,m,x,h,h'=>by simp[packs] at h'
 |i,a::b::r,hp,m,x,h,h'=>by
  have ha:=hp a (by simp);have hb:=hp b (by simp);rcases m with _|_|m
  ·simp at h;subst h
   exact⟨_,by simp[packs];rfl,by simp only[wt] at *;omega⟩
  ·simp at h;subst h
   exact⟨_,by simp[packs];rfl,by simp only[wt] at *;omega⟩
  ·have e:(m+2)/2=m/2+1:=by omega
   rw[e] at h' ⊢;simp only[packs,List.length_cons,List.getElem?_cons_succ] at h' h ⊢;exact packs_gt (i+1) r (fun z hz=>hp z (by simp[hz])) m x h (by omega)
theorem packs_pos:∀(i:Nat) (l:List Thing),(∀x∈l,0<wt x)-> ∀x∈packs i l,0<wt x
 |_,[],_,x,h=>by simp[packs] at h
 |_,[_],_,x,h=>by simp[packs] at h
 |i,a::b::r,hp,x,h=>by
  simp only[packs,List.mem_cons] at h;have ha:=hp a (by simp);have hb:=hp b (by simp);rcases h with rfl|h
  ·simp only[wt] at *;omega
  ·exact packs_pos (i+1) r (fun z hz=>hp z (by simp[hz])) x h
theorem mrg_take:∀(n:Nat) (F G:List Thing),Srt wt F->n<=F.length+G.length ->
  ∃a b,a+b=n/\a<=F.length/\b<=G.length/\(mrg wt F G).take n=mrg wt (F.take a) (G.take b)/\ ∀y∈G.take b,∀x∈F.drop a,wt y<wt x:=by
 intro n
 induction n with
 |zero=>intro F G _ _;exact⟨0,0,rfl,by omega,by omega,by simp[mrg_nil_left],by simp⟩
 |succ n ih =>
  intro F G hF hn;rcases F with _|⟨x,F⟩
  ·exact⟨0,n+1,by omega,by simp,by simpa using hn,by simp[mrg_nil_left],by simp⟩
  rcases G with _|⟨y,G⟩
  ·exact⟨n+1,0,by omega,by simpa using hn,by simp,by simp[mrg_nil_right],by simp⟩
  by_cases h:wt y<wt x
  ·obtain⟨a,b,hab,ha,hb,he,hc⟩:=ih (x::F) G hF (by simp at hn ⊢;omega)
   refine⟨a,b+1,by omega,ha,by simp;omega,?_,?_⟩
   ·rw[mrg_lt wt h,List.take_succ_cons,he,List.take_succ_cons]
    rcases a with _|a
    ·simp[mrg_nil_left]
    ·rw[List.take_succ_cons,mrg_lt wt h]
   ·intro z hz u hu
    rw[List.take_succ_cons,List.mem_cons] at hz;rcases hz with rfl|hz
    ·have hu':=List.mem_of_mem_drop hu
     unfold Srt at hF;rw[List.pairwise_cons] at hF;rcases List.mem_cons.1 hu' with rfl|hu'
     ·exact h
     ·have:=hF.1 u hu';omega
    ·exact hc z hz u hu
  ·unfold Srt at hF
   rw[List.pairwise_cons] at hF;obtain⟨a,b,hab,ha,hb,he,hc⟩:=ih F (y::G) hF.2 (by simp at hn ⊢;omega);refine⟨a+1,b,by omega,by simp;omega,hb,?_,fun z hz u hu=>hc z hz u (by simpa using hu)⟩;rw[mrg_ge wt h,List.take_succ_cons,he,List.take_succ_cons];rcases b with _|b
   ·simp[mrg_nil_right]
   ·rw[List.take_succ_cons,mrg_ge wt h]
structure Leaves (F:List Thing):Prop where
 srt:Srt wt F
 pos:∀x∈F,0<wt x
 sym:∀x∈F,0<=x.2
theorem rows_srt (h:Leaves F):∀i,Srt wt (rowsL F i)
 |0=>h.srt
 |i+1=>mrg_srt' wt h.srt (packs_srt 0 _ (rows_srt h i))
theorem rows_pos (h:Leaves F):∀i,∀x∈rowsL F i,0<wt x
 |0=>h.pos
 |i+1=>by
  intro x hx;rcases(mrg_mem _ _).1 hx with hx|hx
  ·exact h.pos x hx
  ·exact packs_pos 0 _ (rows_pos h i) x hx
theorem rows_take (h:Leaves F) (i n:Nat) (hn:n<=(rowsL F (i+1)).length) :
  ∃a b,a+b=n/\a<=F.length/\2*b<=(rowsL F i).length/\(rowsL F (i+1)).take n=mrg wt (F.take a) ((packs 0 (rowsL F i)).take b) /\
   ((rowsL F (i+1)).take n).filter (fun x=>decide (0<=x.2))=F.take a/\npk ((rowsL F (i+1)).take n)=b /\
   ∀y∈(packs 0 (rowsL F i)).take b,∀x∈F.drop a,wt y<wt x:=by
 rw[show(rowsL F (i+1)).length=F.length+(packs 0 (rowsL F i)).length from length_mrg wt _ _] at hn;obtain⟨a,b,hab,ha,hb,he,hc⟩:=mrg_take n F (packs 0 (rowsL F i)) h.srt hn;have he':(rowsL F (i+1)).take n=mrg wt (F.take a) ((packs 0 (rowsL F i)).take b):=he;rw[length_packs] at hb;have hfil:∀(p:Thing->Bool) (A B:List Thing),(∀x∈A,p x=true)->(∀x∈B,p x=false)->(mrg wt A B).filter p=A:=by
  intro p A B
  induction A,B using mrg.induct (key:=wt) with
  |case1 R=>intro _ hB;rw[mrg_nil_left,List.filter_eq_nil_iff];intro x hx;simp[hB x hx]
  |case2 x L=>intro hA _;rw[mrg_nil_right,List.filter_eq_self];exact hA
  |case3 x L y R hlt ih=>intro hA hB;rw[mrg_lt wt hlt,List.filter_cons_of_neg (by simp[hB y (by simp)])];exact ih hA (fun z hz=>hB z (by simp[hz]))
  |case4 x L y R hlt ih=>intro hA hB;rw[mrg_ge wt hlt,List.filter_cons_of_pos (hA x (by simp)),ih (fun z hz=>hA z (by simp[hz])) hB]
 refine⟨a,b,hab,ha,by omega,he',?_,?_,hc⟩
 ·rw[he']
  refine hfil _ _ _ (fun x hx=>by simp[h.sym x (List.mem_of_mem_take hx)]) (fun x hx=>?_);have:=packs_neg 0 _ x (List.mem_of_mem_take hx);simp;omega
 ·unfold npk
  have hp:(mrg wt (F.take a) ((packs 0 (rowsL F i)).take b)).Perm _:=mrg_perm' wt _ _;rw[he',(hp.filter _).length_eq,List.filter_append,List.length_append,List.filter_eq_nil_iff.2 (fun x hx=>by have:=h.sym x (List.mem_of_mem_take hx);simp;omega),
   List.filter_eq_self.2 (fun x hx=>by simp[packs_neg 0 _ x (List.mem_of_mem_take hx)]),List.length_take,length_packs]
  simp;omega
theorem rows_take0 (h:Leaves F) (n:Nat):((rowsL F 0).take n).filter (fun x=>decide (0<=x.2))=F.take n/\npk ((rowsL F 0).take n)=0:=by
 refine⟨List.filter_eq_self.2 (fun x hx=>by simp[h.sym x (List.mem_of_mem_take hx)]),?_⟩;unfold npk;rw[List.filter_eq_nil_iff.2 (fun x hx=>by have:=h.sym x (List.mem_of_mem_take hx);simp;omega)];rfl
theorem leaves_down (h:Leaves F) (i a b:Nat) (hb:2*b<=(rowsL F i).length) (hc:∀y∈(packs 0 (rowsL F i)).take b,∀x∈F.drop a,wt y<wt x)
  (a':Nat) (ha':a'<=F.length) (hf:((rowsL F i).take (2*b)).filter (fun x=>decide (0<=x.2))=F.take a'):a'<=a:=by
 rcases Nat.lt_or_ge a a' with hlt|hge
 ·exfalso
  have hx:F[a]∈F.take a':=by
   rw[List.mem_take_iff_getElem];exact⟨a,by omega,rfl⟩
  rw[<-hf,List.mem_filter,List.mem_take_iff_getElem] at hx;obtain⟨⟨m,hm,he⟩,_⟩:=hx;obtain⟨y,hy,hlt'⟩:=packs_gt 0 (rowsL F i) (rows_pos h i) m F[a] (by rw[<-he];exact List.getElem?_eq_getElem (by omega)) (by rw[length_packs];omega);have:=hc y (List.mem_of_getElem? (i:=m/2) (by rw[List.getElem?_take,if_pos (by omega)];exact hy)) F[a] (List.mem_of_getElem? (i:=0) (by rw[List.getElem?_drop];exact List.getElem?_eq_getElem (by omega)));omega
 ·exact hge
theorem length_rows:∀(i:Nat),(rowsL F i).length+(F.length-1)/2^i+1=2*F.length∨F.length=0
 |0=>by rcases F with _|⟨x,F⟩<;>simp[rowsL];omega
 |i+1=>by
  rcases length_rows i with h|h
  ·left
   rw[show(rowsL F (i+1)).length=F.length+(packs 0 (rowsL F i)).length from length_mrg wt _ _,length_packs,Nat.pow_succ,<-Nat.div_div_eq_div_mul];generalize (F.length-1)/2^i=q at *
   omega
  ·right;exact h
end
def tk (F:List Thing):Nat->Nat->List Nat
 |0,n=>[n]
 |i+1,n=>(n-npk ((rowsL F (i+1)).take n))::tk F i (2*npk ((rowsL F (i+1)).take n))
def bump (ls:List Nat) (l:Nat):List Nat:=(ls.take l).map (· +1)++ls.drop l
theorem length_bump (ls:List Nat) (l:Nat):(bump ls l).length=ls.length:=by simp[bump];omega
def room (L:Nat) (ls:List Nat):Nat:=(ls.map fun x=>2^(L-x)).sum
theorem room_append (L:Nat) (a b:List Nat):room L (a++b)=room L a+room L b:=by simp[room]
theorem room_const (L c:Nat):∀(ls:List Nat),(∀x∈ls,x=c)->room L ls=ls.length*2^(L-c)
 | [],_=>by simp[room]
 |x::r,h=>by
  have:=room_const L c r (fun y hy=>h y (by simp[hy]));have hx:=h x (by simp);simp only[room,List.map_cons,List.sum_cons,List.length_cons] at *
  rw[hx,this,Nat.add_mul];omega
theorem room_bump (L c l:Nat) (ls:List Nat) (hl:l<=ls.length) (hc:∀x∈ls.take l,x=c) (hL:c<L):room L (bump ls l)+l*2^(L-c-1)=room L ls:=by
 have e1:room L ls=room L (ls.take l)+room L (ls.drop l):=by rw[<-room_append,List.take_append_drop]
 have e2:room L ((ls.take l).map (· +1))=l*2^(L-(c+1)):=by
  rw[room_const L (c+1) _ (by intro x hx;obtain⟨y,hy,rfl⟩:=List.mem_map.1 hx;rw[hc y hy]),List.length_map,List.length_take,Nat.min_eq_left hl]
 have e3:room L (ls.take l)=l*2^(L-c):=by rw[room_const L c _ hc,List.length_take,Nat.min_eq_left hl]
 have e4:2^(L-c)=2*2^(L-(c+1)):=by rw[show L-c=(L-(c+1))+1 by omega,Nat.pow_succ];omega
 rw[bump,room_append,e1,e2,e3,e4,show L-c-1=L-(c+1) by omega];generalize 2^(L-(c+1))=q;rw[Nat.mul_left_comm];omega
section
variable {F:List Thing}
theorem room_down (h:Leaves F) (L:Nat):∀(i n c a:Nat) (ls:List Nat),ls.length=F.length->n<=(rowsL F i).length->c+i+1=L->a<=F.length->(∀x∈ls.take a,x=c) ->
  (∀a',a'<=F.length->((rowsL F i).take n).filter (fun x=>decide (0<=x.2))=F.take a'->a'<=a) ->
  room L ((tk F i n).foldl bump ls)+n*2^i=room L ls:=by
 intro i
 induction i with
 |zero =>
  intro n c a ls hls hn hL ha hc hd;have hna:=hd n hn ((rows_take0 h n).1);simp only[tk,List.foldl_cons,List.foldl_nil];have hm:∀x∈ls.take n,x=c:=fun x hx=>hc x (by
   rw[List.mem_take_iff_getElem] at hx ⊢;obtain⟨j,hj,e⟩:=hx;exact⟨j,by omega,e⟩)
  have:=room_bump L c n ls (by rw[hls];exact hn) hm (by omega)
  rwa [show L-c-1=0 by omega] at this
 |succ i ih =>
  intro n c a ls hls hn hL ha hc hd;obtain⟨l,b,hlb,hl,hb,he,hf,hk,hcmp⟩:=rows_take h i n hn;have hla:=hd l hl hf;simp only[tk,List.foldl_cons,hk];rw[show n-b=l by omega];have hm:∀x∈ls.take l,x=c:=fun x hx=>hc x (by
   rw[List.mem_take_iff_getElem] at hx ⊢;obtain⟨j,hj,e⟩:=hx;exact⟨j,by omega,e⟩)
  have h1:=room_bump L c l ls (by omega) hm (by omega);have h2:=ih (2*b) (c+1) l (bump ls l) (by rw[length_bump,hls]) hb (by omega) hl (by
   intro x hx;rw[bump,List.take_left' (by rw[List.length_map,List.length_take,hls,Nat.min_eq_left hl])] at hx;obtain⟨y,hy,rfl⟩:=List.mem_map.1 hx;rw[hm y hy]) (fun a' ha' hf'=>leaves_down h i l b hb hcmp a' ha' hf')
  rw[show L-c-1=i+1 by omega] at h1;have e1:2*b*2^i=b*2^(i+1):=by rw[Nat.pow_succ,Nat.mul_comm 2 b,Nat.mul_assoc,Nat.mul_comm 2]
  rw[e1] at h2;rw[<-hlb,Nat.add_mul];omega
theorem le_down:∀(ts ls:List Nat) (c:Nat),(∀x∈ls,x<=c)-> ∀x∈ts.foldl bump ls,x<=c+ts.length
 | [],ls,c,h=>by simpa using h
 |t::ts,ls,c,h=>by
  intro x hx;have:=le_down ts (bump ls t) (c+1) (by
   intro y hy;rw[bump,List.mem_append] at hy;rcases hy with hy|hy
   ·obtain⟨z,hz,rfl⟩:=List.mem_map.1 hy
    have:=h z (List.mem_of_mem_take hz);omega
   ·have:=h y (List.mem_of_mem_drop hy);omega) x hx
  simp only[List.length_cons];omega
theorem length_tk:∀(i n:Nat),(tk F i n).length=i+1
 |0,_=>rfl
 |i+1,n=>by simp[tk,length_tk i]
def lensOf (F:List Thing) (L:Nat):List Nat:=(tk F (L-1) (2*F.length-2)).foldl bump (List.replicate F.length 0)
theorem length_foldl_bump:∀(ts ls:List Nat),(ts.foldl bump ls).length=ls.length
 | [],_=>rfl
 |t::ts,ls=>by rw[List.foldl_cons,length_foldl_bump ts,length_bump]
theorem length_lensOf (L:Nat):(lensOf F L).length=F.length:=by rw[lensOf,length_foldl_bump,List.length_replicate]
theorem room_le_of_mem (L:Nat):∀(ls:List Nat),∀x∈ls,2^(L-x)<=room L ls
 |y::r,x,hx=>by
  simp only[room,List.map_cons,List.sum_cons];rcases List.mem_cons.1 hx with rfl|hx
  ·omega
  ·have:=room_le_of_mem L r x hx
   simp only[room] at this;exact Nat.le_trans this (Nat.le_add_left _ _)
theorem lens_whole (h:Leaves F) (L:Nat) (hL:0<L) (hn:2<=F.length) (hm:F.length<=2^L):room L (lensOf F L)=2^L:=by
 obtain⟨i,rfl⟩:∃i,L=i+1:=⟨L-1,by omega⟩
 have hlen:2*F.length-2<=(rowsL F i).length:=by
  rcases length_rows (F:=F) i with h1|h1
  ·have:(F.length-1)/2^i<2:=by
    rw[Nat.div_lt_iff_lt_mul (Nat.two_pow_pos i)];rw[Nat.pow_succ] at hm;omega
   omega
  ·omega
 have:=room_down h (i+1) i (2*F.length-2) 0 F.length (List.replicate F.length 0) (by simp) hlen (by omega) (by omega) (by intro x hx;exact List.eq_of_mem_replicate (List.mem_of_mem_take hx)) (fun _ h' _=>h');rw[room_const (i+1) 0 (List.replicate F.length 0) (fun x hx=>List.eq_of_mem_replicate hx),List.length_replicate] at this;rw[lensOf,Nat.add_sub_cancel];have e:F.length*2^(i+1-0)=(2*F.length-2)*2^i+2^(i+1):=by
  rw[Nat.sub_zero,Nat.pow_succ,<-Nat.mul_comm 2,<-Nat.mul_assoc,<-Nat.add_mul];congr 1;omega
 omega
theorem lens_bounds (h:Leaves F) (L:Nat) (hL:0<L) (hn:2<=F.length) (hm:F.length<=2^L):∀x∈lensOf F L,1<=x/\x<=L:=by
 intro x hx;refine⟨?_,?_⟩
 ·rcases Nat.eq_zero_or_pos x with rfl|h0
  ·exfalso
   have hw:=lens_whole h L hL hn hm;obtain⟨a,b,e⟩:=List.append_of_mem hx;have hl:=length_lensOf (F:=F) L;rw[e] at hl hw;rw[room_append] at hw;have h1:room L (0::b)=2^L+room L b:=by simp[room]
   rw[h1] at hw;simp at hl
   rcases a with _|⟨y,a⟩
   ·rcases b with _|⟨y,b⟩
    ·simp at hl;omega
    ·have:=room_le_of_mem L (y::b) y (by simp)
     have:=Nat.two_pow_pos (L-y);omega
   ·have:=room_le_of_mem L (y::a) y (by simp)
    have:=Nat.two_pow_pos (L-y);omega
  ·exact h0
 ·have:=le_down (tk F (L-1) (2*F.length-2)) (List.replicate F.length 0) 0 (by intro y hy;rw[List.eq_of_mem_replicate hy];omega) x hx
  rw[length_tk] at this;omega
end
end Ln
end Go.Proofs.YtjligbmickfbdaaGreat
