/- append in a region that draws, elements of whatever size: putting one element into a row. The reference's code lengths: packages that hold their symbols: the same lengths. Plain lists, no program. The reference's words, runs and bits: the same numbers. Plain lists, no program. varveref04: Digits, Gamma. varveref04: Gamma; append of all numbers of a slice. varveref04.Text. varveref08.Thing: things as cells; put. -/
import Derived.Test.YtjligbmickfbdaaGreatSp03
import Derived.Laws.OwnMore
import Derived.Maps.AppendAt
import Derived.Test.YtjligbmickfbdaaGreatSp22
import Derived.Test.YtjligbmickfbdaaGreatSp14
import Derived.Test.YtjligbmickfbdaaGreatSp23
import Derived.Deep.LoopGhost
import Derived.BigRegion
import Derived.Deep.RegionHeld3
namespace Go.Proofs.YtjligbmickfbdaaGreat
namespace Rf
open Go.RowKit Go.Maps
structure El (t ts:TypeId) (z:Value) (sz bt:Nat):Prop where
 info:(Tryz.prog.info? t).map (fun i=>(i.zero,i.size,i.bytes))=some (some z,sz,bt)
 sl:Tryz.prog.underlying ts=some (.slice t)
 zc:z.cells.size=sz
 pos:0<sz
 small:bt<=64
theorem intEl:El 3 28 (.int .i64 0) 1 8:=⟨int_info,Tryz.underlying28,rfl,by decide,by decide⟩
structure ArgV (w:World) (sz:Nat) (A:Option Addr) (n c:Nat) (V:List Value):Prop where
 rd:Rd w w.heap.size sz A n V
 nc:n<=c
 cm:c<=maxLen
 no:A=none->c=0
section
variable {w w':World} {B sz n c k:Nat} {A:Option Addr} {t ts:TypeId} {z:Value} {bt:Nat} {v:Value} {V X:List Value}
theorem ArgV.ext (h:ArgV w sz A n c V) (hb:Below w.heap.size w w'):ArgV w' sz A n c V:=⟨h.rd.ext hb,h.nc,h.cm,h.no⟩
theorem argV_of_own (h:w.ownsRow B t sz v n V):∃A c,v=.slice A n c/\ArgV w sz A n c V:=by
 have h0:=h;obtain⟨A,c,rfl,h1,h2⟩:=own_slice h0;refine⟨A,c,rfl,Rd.of_own h,h1,h2,?_⟩;rintro rfl;rcases h.2 with ⟨hv,_⟩|⟨g,cap,cur,hv,_⟩
 ·simp only[Value.slice.injEq] at hv;exact hv.2.2
 ·cases hv
theorem ArgV.take (h:ArgV w sz A n c V) (hb:Below w.heap.size w w') (hk:k<=n):Rd w' w'.heap.size sz A k (V.take (k*sz)):=(h.rd.ext hb).take hk
theorem ArgV.drop0 (h:ArgV w sz A n c V) (hb:Below w.heap.size w w'):Rd w' w'.heap.size sz (if c=n then A else A.map (·.add (n*sz))) 0 (V.drop (n*sz)):=by
 have h1:=(h.rd.ext hb).drop (k:=n) (Nat.le_refl _) h.nc
 rwa [Nat.sub_self] at h1
theorem ArgV.drop0_no (h:ArgV w sz A n c V):(if c=n then A else A.map (·.add (n*sz)))=none->c-n=0:=by
 intro hh;split at hh
 ·omega
 ·cases A with
  |none=>have:=h.no rfl;omega
  |some ad=>cases hh
theorem ArgV.drop {ad:Addr} (h:ArgV w sz (some ad) n c V) (hb:Below w.heap.size w w') (hk:k<n):Rd w' w'.heap.size sz (some (ad.add (k*sz))) (n-k) (V.drop (k*sz)):=by
 have h1:=(h.rd.ext hb).drop (k:=k) (Nat.le_of_lt hk) h.nc;rw[if_neg (by have:=h.nc;omega)] at h1;exact h1
theorem ArgV.some (h:ArgV w sz A n c V) (hn:0<n):∃ad,A=.some ad:=by
 obtain⟨ad,e,_⟩:=h.rd.cells hn;exact⟨ad,e⟩
theorem ownV_empty (t:TypeId) (w:World):(w.alloc (.cells #[] t)).ownsRow w.heap.size t sz (.slice (.some ⟨w.heap.size,0,none⟩) 0 0) 0 [] :=
 World.ownsRow_lit w #[] 0 (Nat.le_refl _) (by simp[maxLen]) (by simp)
theorem rdV_new (t:TypeId) (w:World) (X:List Value) (hX:X.length=sz):Rd (w.alloc (.cells X.toArray t)) (w.alloc (.cells X.toArray t)).heap.size sz (.some ⟨w.heap.size,0,none⟩) 1 X:=by
 have:=Rd.of_own (World.ownsRow_lit (base:=w.heap.size) (e:=t) (size:=sz) w X.toArray 1 (Nat.le_refl _) (by simp[maxLen]) (by simp[hX]));simpa using this
theorem ownV_empty2 (t t':TypeId) (w w1:World) (X:Array Value) (h:w1.heap.size=w.heap.size):((w1.alloc (.cells X t')).alloc (.cells #[] t)).ownsRow w.heap.size t sz (.slice (.some ⟨w.heap.size+1,0,none⟩) 0 0) 0 []:=by
 have hh:=ownV_empty (sz:=sz) t (w1.alloc (.cells X t'));have e:(w1.alloc (.cells X t')).heap.size=w.heap.size+1:=by simp[h]
 rw[e] at hh;exact own_lower hh (Nat.le_succ _)
theorem rdV_far {g b:Nat} (hX:X.length=sz) (hb:w.heap.size=b) (h:(w.alloc (.cells X.toArray t)).grownBy w' (.some g)) (hg:g≠w.heap.size):Rd w' w'.heap.size sz (.some ⟨b,0,none⟩) 1 X:=by
 subst hb;have hr:=rdV_new (sz:=sz) t w X hX;refine⟨hr.len,fun hn=>?_⟩;obtain⟨ad,e,hb,hc⟩:=hr.cells hn;cases e
 refine⟨_,rfl,Nat.lt_of_lt_of_le hb h.size,fun j u hu=>?_⟩;have:=hc j u hu;rw[Addr.add_lit] at this ⊢;rw[World.grownBy.cell_far h ⟨w.heap.size,0+j,none⟩ (by simp) (by intro e;cases e;exact hg rfl)];exact this
theorem run_appV {w0:World} {n0:Nat} (he:El t ts z sz bt) (ty:TypeId) (hown:w0.ownsRow B t sz v n0 V) (hrd:Rd w0 w0.heap.size sz A n X) (hA:A=none->c=0) (h1:∀u∈X,u.oneCell'=true) (hl:n0<=1000000000) (hn:n<=1000000000) (hB:B<=w0.heap.size) :
  ∃v' w',(Builtin.append_ #[ts,ts] ty #[v,.slice A n c]).run Tryz.prog w0=.ok v' w'/\w'.ownsRow B t sz v' (n0+n) (V++X)/\Below B w0 w'/\w0.grownBy w' v.ownBlock:=by
 obtain⟨i0,hi,hz0,hz1,hz2⟩:=info_parts he.info;have hs:=he.small;cases A with
 |none =>
  have hn0:n=0:=by
   rcases Nat.eq_zero_or_pos n with h0|h0
   ·exact h0
   ·obtain⟨ad,e,_⟩:=hrd.cells (by omega)
    cases e
  have hc0:=hA rfl;subst hn0 hc0;have hX:X=[]:=List.eq_nil_of_length_eq_zero (by rw[hrd.len];simp);subst hX;exact⟨v,w0,run_append_owned_none (P:=Tryz.prog) (w:=w0) B ts ty t i0 sz he.sl hi v n0 V hown,by rw[List.append_nil];exact hown,Below.refl _ _,⟨rfl,rfl,rfl,Nat.le_refl _,fun _ _ _=>rfl⟩⟩
 |some ad =>
  obtain⟨v',w',hr,h2,h3,-,-⟩:=run_append_own_at (P:=Tryz.prog) w0 B ts ty t i0 z sz bt he.sl hi hz0 hz1 hz2 he.zc he.pos v n0 V hown
   ad n c X hrd.len (by
    intro j u hu;have hj:=(List.getElem?_eq_some_iff.1 hu).1;rw[hrd.len] at hj;have hn0:0<n:=by
     rcases Nat.eq_zero_or_pos n with h0|h0
     ·subst h0;simp at hj
     ·exact h0
    obtain⟨ad',e,_,hc⟩:=hrd.cells hn0;cases e
    exact hc j u hu) h1 (by simp only[maxLen];omega) (Nat.le_trans (Nat.mul_le_mul_left _ hs) (by omega)) hB
  have hlt:=World.ownsRow.lt hown;exact⟨v',w',hr,h2,((Below.refl _ _).grown h3 hB (fun k hk=>(hlt k hk).1)),h3⟩
end
section
variable {ops:Array Oper} {rest:List Oper} {o:Oper} {a:Act} {K:Act->World->Prop} {Q:Exit->Act->World->Prop} {E:Prop}
theorem step_appV {t ts:TypeId} {z:Value} {sz bt:Nat} (he:El t ts z sz bt) (s x:Operand) {w0:World} {B n0:Nat} {v:Value} {V X:List Value} {A:Option Addr} {n c:Nat}
  (hgd:o.guard=none) (ho:o.op=.call { callee:=.builtin .append,args:=#[s,x],argTypes:=#[ts,ts] })
  (hown:w0.ownsRow B t sz v n0 V) (hrd:Rd w0 w0.heap.size sz A n X) (hA:A=none->c=0) (h1:∀u∈X,u.oneCell'=true) (hl:n0<=1000000000) (hn:n<=1000000000) (hB:B<=w0.heap.size) (hs:a.eval s=v) (hx:a.eval x=.slice A n c)
  (h:∀v' w',w'.ownsRow B t sz v' (n0+n) (V++X)->Below B w0 w'->w0.grownBy w' v.ownBlock->K (a.put o.dst v') w') :
  if Region.wanted o (yielded ops a.tmps)=true then Oper.wp Tryz.prog o a w0 K Q else E:=by
 have hw:Region.wanted o (yielded ops a.tmps)=true:=by simp[Region.wanted,hgd]
 rw[if_pos hw];obtain⟨v',w',hr,h3,h4,h5⟩:=run_appV he o.type hown hrd hA h1 hl hn hB;unfold Oper.wp execOp;simp only[ho,resolve,invoke,builtin,Sem.run_bind,Sem.run_pure,Result.andThen_ok,List.map_toArray,List.map_cons,List.map_nil,hs,hx,hr];exact h v' w' h3 h4 h5
end
end Rf
end Go.Proofs.YtjligbmickfbdaaGreat
namespace Go.Proofs.YtjligbmickfbdaaGreat
namespace Ln
open St
abbrev ThR:=Int×List Int×Bool
def goR (x y:ThR):Bool:=decide (y.1<x.1)||(decide (y.1=x.1)&&(y.2.2|| !x.2.2))
def putR (x:ThR):List ThR->List ThR
 | []=>[x]
 |y::r=>if goR x y=true then y::putR x r else x::y::r
def pairR:List ThR->List ThR
 |x::y::r=>(x.1+y.1,x.2.1++y.2.1,false)::pairR r
 |_=>[]
def putsR (xs:List ThR) (row:List ThR):List ThR:=xs.foldl (fun o x=>putR x o) row
def nextR (row leaves:List ThR):List ThR:=putsR leaves (putsR (pairR row) [])
theorem length_putR (x:ThR):∀r,(putR x r).length=r.length+1
 | []=>rfl
 |y::r=>by
  rw[putR];split
  ·rw[List.length_cons,length_putR x r,List.length_cons]
  ·simp
def smL (F:List Thing):Nat->Int->List Int
 |0,k=>[k]
 |i+1,k=>if 0<=k then[k] else(((rowsL F i).drop (2*(-1-k).toNat)).take 2).flatMap fun x=>smL F i x.2
def toR (F:List Thing) (i:Nat) (x:Thing):ThR:=(x.1,smL F i x.2,decide (0<=x.2))
theorem smL_leaf (F:List Thing):∀(i:Nat) {k:Int},0<=k->smL F i k=[k]
 |0,_,_=>rfl
 |i+1,_,h=>if_pos h
theorem toR_leaf (F:List Thing) (i:Nat) {x:Thing} (h:0<=x.2):toR F i x=(x.1,[x.2],true):=by
 unfold toR;rw[smL_leaf F i h,decide_eq_true h]
theorem pairR_at (F:List Thing) (i:Nat):∀(n:Nat) (l:List Thing),(rowsL F i).drop (2*n)=l->pairR (l.map (toR F i))=(packs n l).map (toR F (i+1))
 |n,[],_=>by simp[pairR,packs]
 |n,[x],_=>by simp[pairR,packs]
 |n,x::y::r,h=>by
  have h2:(rowsL F i).drop (2*(n+1))=r:=by
   rw[show 2*(n+1)=2*n+2 by omega,<-List.drop_drop,h];rfl
  rw[List.map_cons,List.map_cons,pairR,packs,List.map_cons,pairR_at F i (n+1) r h2];congr 1;unfold toR;dsimp only;have hn: ¬ (0:Int)<= -1-(n:Int):=by omega
  rw[smL,if_neg hn,decide_eq_false hn,show(-1-(-1-(n:Int))).toNat=n by omega,h];simp
theorem putR_end (x:ThR) (hx:x.2.2=false):∀r:List ThR,(∀y∈r,y.1<=x.1)->putR x r=r++[x]
 | [],_=>rfl
 |y::r,h=>by
  have h1:=h y (List.mem_cons_self ..);have hg:goR x y=true:=by
   unfold goR;rw[hx];simp only[Bool.not_false,Bool.or_true,Bool.and_true,Bool.or_eq_true,decide_eq_true_eq];omega
  rw[putR,if_pos hg,putR_end x hx r fun z hz=>h z (List.mem_cons_of_mem _ hz)];rfl
theorem putsR_packs:∀(xs r:List ThR),(∀x∈xs,x.2.2=false)->(r++xs).Pairwise (fun a b=>a.1<=b.1)->putsR xs r=r++xs
 | [],r,_,_=>by simp[putsR]
 |x::xs,r,h,hp=>by
  unfold putsR;rw[List.foldl_cons,putR_end x (h x (List.mem_cons_self ..)) r fun y hy=>(List.pairwise_append.1 hp).2.2 y hy x (List.mem_cons_self ..)];have:=putsR_packs xs (r++[x]) (fun z hz=>h z (List.mem_cons_of_mem _ hz)) (by rw[List.append_assoc];exact hp);unfold putsR at this;rw[this,List.append_assoc];rfl
theorem putR_leaf (F:List Thing) (i:Nat) (l:Thing) (hl:0<=l.2):∀(n:Nat) (L P:List Thing),L.length+P.length<=n->(∀x∈L,x.1<=l.1/\0<=x.2)->(∀x∈P,x.2<0) ->
  putR (toR F i l) ((mrg wt L P).map (toR F i))=(mrg wt (L++[l]) P).map (toR F i)
 |n,[],[],_,_,_=>by rw[mrg_nil_left,List.nil_append,mrg_nil_right];rfl
 |0,[],y::P,hn,_,_=>by simp at hn
 |0,x::L,P,hn,_,_=>by simp at hn
 |n+1,[],y::P,hn,hL,hP=>by
  have hy:=hP y (List.mem_cons_self ..);rw[mrg_nil_left,List.nil_append];by_cases h:wt y<wt l
  ·rw[mrg_lt wt h,List.map_cons,List.map_cons,putR,if_pos]
   ·have:=putR_leaf F i l hl n [] P (by simp at hn ⊢;omega) hL fun z hz=>hP z (List.mem_cons_of_mem _ hz)
    rw[mrg_nil_left,List.nil_append] at this;rw[this]
   ·unfold goR toR
    simp only[Bool.or_eq_true,decide_eq_true_eq];exact .inl h
  ·rw[mrg_ge wt h,mrg_nil_left,List.map_cons,List.map_cons,putR,if_neg]
   ·rfl
   ·unfold goR toR
    dsimp only;unfold wt at h;rw[decide_eq_true hl,decide_eq_false (show ¬ 0<=y.2 by omega),decide_eq_false h];simp
 |n+1,x::L,P,hn,hL,hP=>by
  have hx:=hL x (List.mem_cons_self ..);have hgx:goR (toR F i l) (toR F i x)=true:=by
   unfold goR toR;dsimp only;rw[decide_eq_true hx.2];simp only[Bool.true_or,Bool.and_true,Bool.or_eq_true,decide_eq_true_eq];omega
  rcases P with _|⟨y,P⟩
  ·have:=putR_leaf F i l hl n L [] (by simp at hn ⊢;omega) (fun z hz=>hL z (List.mem_cons_of_mem _ hz)) hP
   rw[mrg_nil_right,mrg_nil_right] at *
   rw[List.cons_append,List.map_cons,List.map_cons,putR,if_pos hgx,this]
  ·by_cases h:wt y<wt x
   ·rw[List.cons_append,mrg_lt wt h,mrg_lt wt h,List.map_cons,List.map_cons,putR,if_pos]
    ·have:=putR_leaf F i l hl n (x::L) P (by simp at hn ⊢;omega) hL fun z hz=>hP z (List.mem_cons_of_mem _ hz)
     rw[this,List.cons_append]
    ·unfold goR toR
     simp only[Bool.or_eq_true,decide_eq_true_eq];unfold wt at h;exact .inl (by omega)
   ·rw[List.cons_append,mrg_ge wt h,mrg_ge wt h,List.map_cons,List.map_cons,putR,if_pos hgx,putR_leaf F i l hl n L (y::P) (by simp at hn ⊢;omega) (fun z hz=>hL z (List.mem_cons_of_mem _ hz)) hP]
theorem putsR_leaves (F:List Thing) (i:Nat) (P:List Thing) (hP:∀x∈P,x.2<0):∀(xs L:List Thing),(∀x∈L++xs,0<=x.2)->Srt wt (L++xs)->putsR (xs.map (toR F i)) ((mrg wt L P).map (toR F i))=(mrg wt (L++xs) P).map (toR F i)
 | [],L,_,_=>by simp[putsR]
 |x::xs,L,h,hs=>by
  have hx:=h x (by simp);unfold putsR;rw[List.map_cons,List.foldl_cons,putR_leaf F i x hx _ L P (Nat.le_refl _) (fun z hz=>⟨(List.pairwise_append.1 hs).2.2 z hz x (List.mem_cons_self ..),h z (List.mem_append_left _ hz)⟩) hP];have:=putsR_leaves F i P hP xs (L++[x]) (by rw[List.append_assoc];exact h) (by rw[List.append_assoc];exact hs);unfold putsR at this;rw[this,List.append_assoc];rfl
theorem nextR_eq (F:List Thing) (i:Nat) (hF:∀x∈F,0<=x.2) (hs:Srt wt F) (hr:Srt wt (rowsL F i)):nextR ((rowsL F i).map (toR F i)) (F.map (toR F (i+1)))=(rowsL F (i+1)).map (toR F (i+1)):=by
 unfold nextR;rw[pairR_at F i 0 _ (by simp)];have h1:=putsR_packs ((packs 0 (rowsL F i)).map (toR F (i+1))) [] (fun x hx=>by
  obtain⟨y,hy,rfl⟩:=List.mem_map.1 hx;exact decide_eq_false (by have:=packs_neg 0 _ y hy;omega)) (by
  rw[List.nil_append,List.pairwise_map];exact packs_srt 0 _ hr)
 rw[h1,List.nil_append];have h2:=putsR_leaves F (i+1) (packs 0 (rowsL F i)) (packs_neg 0 _) F [] (by simpa using hF) (by simpa using hs);rw[mrg_nil_left,List.nil_append] at h2;rw[h2];rfl
theorem putR_first (x:Thing) (hx:0<=x.2):∀L:List Thing,(∀y∈L,0<=y.2)->putR (toR [] 0 x) (L.map (toR [] 0))=(mrg wt L [x]).map (toR [] 0)
 | [],_=>by rw[mrg_nil_left];rfl
 |y::L,h=>by
  have hy:=h y (List.mem_cons_self ..);by_cases hw:wt x<wt y
  ·rw[mrg_lt wt hw,mrg_nil_right,List.map_cons,putR,if_neg]
   ·rfl
   ·unfold goR toR
    unfold wt at hw;simp only[Bool.or_eq_true,Bool.and_eq_true,decide_eq_true_eq];omega
  ·rw[mrg_ge wt hw,List.map_cons,putR,if_pos,putR_first x hx L fun z hz=>h z (List.mem_cons_of_mem _ hz)]
   ·rfl
   ·unfold goR toR
    unfold wt at hw;simp only[Bool.or_eq_true,Bool.and_eq_true,decide_eq_true_eq];omega
theorem toR0 (F G:List Thing):toR F 0=toR G 0:=rfl
theorem putsR_first:∀(xs L:List Thing),(∀x∈L++xs,0<=x.2)->putsR (xs.map (toR [] 0)) ((stab wt L).map (toR [] 0))=(stab wt (L++xs)).map (toR [] 0)
 | [],L,_=>by simp[putsR]
 |x::xs,L,h=>by
  have hx:=h x (by simp);unfold putsR;rw[List.map_cons,List.foldl_cons,putR_first x hx _ fun z hz=>h z (List.mem_append_left _ ((stab_perm wt L).mem_iff.1 hz)),<-stab_one wt x,mrg_stab];have:=putsR_first xs (L++[x]) (by rw[List.append_assoc];exact h);unfold putsR at this;rw[this,List.append_assoc];rfl
def cntS (o:List Int) (xs:List Int):List Int:=xs.foldl (fun o s=>inc o s.toNat) o
theorem inc_comm (o:List Int) (a b:Nat):inc (inc o a) b=inc (inc o b) a:=by
 unfold inc;by_cases h:a=b
 ·subst h;rfl
 ·rw[List.getD_eq_getElem?_getD,List.getD_eq_getElem?_getD,List.getD_eq_getElem?_getD,List.getD_eq_getElem?_getD,List.getElem?_set_ne h,List.getElem?_set_ne (Ne.symm h),List.set_comm _ _ h]
theorem cntS_perm {xs ys:List Int} (h:xs.Perm ys):∀o,cntS o xs=cntS o ys:=by
 induction h with
 |nil=>intro o;rfl
 |cons x _ ih=>intro o;exact ih _
 |swap x y l=>intro o;show cntS (inc (inc o y.toNat) x.toNat) l=cntS (inc (inc o x.toNat) y.toNat) l;rw[inc_comm]
 |trans _ _ ih1 ih2=>intro o;rw[ih1,ih2]
theorem cntS_append (o xs ys:List Int):cntS o (xs++ys)=cntS (cntS o xs) ys:=List.foldl_append ..
theorem incs_cntS:∀(xs:List Thing) (o:List Int),incs o xs=cntS o ((xs.filter fun x=>decide (0<=x.2)).map (·.2))
 | [],_=>rfl
 |x::r,o=>by
  by_cases h:x.2<0
  ·rw[List.filter_cons_of_neg (by simp;omega),<-incs_cntS r]
   unfold incs;rw[List.foldl_cons,if_pos h]
  ·rw[List.filter_cons_of_pos (by simp;omega),List.map_cons]
   show incs o (x::r)=cntS (inc o x.2.toNat) _
   rw[<-incs_cntS r];unfold incs;rw[List.foldl_cons,if_neg h]
def flatR (F:List Thing) (i m:Nat):List Int:=((rowsL F i).take m).flatMap fun x=>smL F i x.2
theorem packs_take:∀(q n:Nat) (l:List Thing),(packs n l).take q=packs n (l.take (2*q))
 |0,n,l=>by simp[packs]
 |q+1,n,[]=>by simp[packs]
 |q+1,n,[x]=>by simp[packs,show 2*(q+1)=(2*q+1)+1 by omega]
 |q+1,n,x::y::r=>by
  rw[packs,List.take_succ_cons,packs_take q (n+1) r,show 2*(q+1)=(2*q+1)+1 by omega,List.take_succ_cons,List.take_succ_cons,packs]
theorem flat_packs (F:List Thing) (i:Nat):∀(n:Nat) (l:List Thing),(∃t,(rowsL F i).drop (2*n)=l++t)->l.length%2=0->(packs n l).flatMap (fun x=>smL F (i+1) x.2)=l.flatMap fun x=>smL F i x.2
 |n,[],_,_=>by simp[packs]
 |n,[x],_,h=>by simp at h
 |n,x::y::r,⟨t,h⟩,he=>by
  have h2:(rowsL F i).drop (2*(n+1))=r++t:=by
   rw[show 2*(n+1)=2*n+2 by omega,<-List.drop_drop,h];rfl
  rw[packs,List.flatMap_cons,flat_packs F i (n+1) r ⟨t,h2⟩ (by simp at he;omega)];dsimp only;have hn: ¬ (0:Int)<= -1-(n:Int):=by omega
  rw[smL,if_neg hn,show(-1-(-1-(n:Int))).toNat=n by omega,h];simp
theorem mrg_neg (F:List Thing) (hF:∀x∈F,0<=x.2):∀(n:Nat) (L P:List Thing),L.length+P.length<=n->(∀x∈L,0<=x.2)->(∀x∈P,x.2<0)->(mrg wt L P).filter (fun x=>decide (x.2<0))=P
 |n,[],P,_,_,hP=>by
  rw[mrg_nil_left,List.filter_eq_self];intro x hx;simpa using hP x hx
 |n,x::L,[],_,hL,_=>by
  rw[mrg_nil_right,List.filter_eq_nil_iff];intro y hy;have:=hL y hy;simp;omega
 |n,x::L,y::P,hn,hL,hP=>by
  have hx:=hL x (List.mem_cons_self ..);have hy:=hP y (List.mem_cons_self ..);by_cases h:wt y<wt x
  ·rw[mrg_lt wt h,List.filter_cons_of_pos (by simpa using hy),mrg_neg F hF (n-1) (x::L) P (by simp at hn ⊢;omega) hL fun z hz=>hP z (List.mem_cons_of_mem _ hz)]
  ·rw[mrg_ge wt h,List.filter_cons_of_neg (by simp;omega),mrg_neg F hF (n-1) L (y::P) (by simp at hn ⊢;omega) (fun z hz=>hL z (List.mem_cons_of_mem _ hz)) hP]
theorem flat_split (G:Thing->List Int):∀l:List Thing,(l.flatMap G).Perm ((l.filter fun x=>decide (0<=x.2)).flatMap G++(l.filter fun x=>decide (x.2<0)).flatMap G)
 | []=>by simp
 |x::l=>by
  have ih:=flat_split G l;by_cases h:x.2<0
  ·rw[List.filter_cons_of_neg (by simp;omega),List.filter_cons_of_pos (by simpa using h),List.flatMap_cons,List.flatMap_cons]
   exact(List.Perm.append_left _ ih).trans (by rw[<-List.append_assoc,<-List.append_assoc];exact List.Perm.append_right _ List.perm_append_comm)
  ·rw[List.filter_cons_of_pos (by simp;omega),List.filter_cons_of_neg (by simpa using h),List.flatMap_cons,List.flatMap_cons,List.append_assoc]
   exact List.Perm.append_left _ ih
theorem leaf_flat (F:List Thing) (i:Nat):∀l:List Thing,(l.filter fun x=>decide (0<=x.2)).flatMap (fun x=>smL F i x.2)=(l.filter fun x=>decide (0<=x.2)).map (·.2)
 | []=>rfl
 |x::l=>by
  by_cases h:0<=x.2
  ·rw[List.filter_cons_of_pos (by simpa using h),List.flatMap_cons,List.map_cons,smL_leaf F i h,leaf_flat F i l];rfl
  ·rw[List.filter_cons_of_neg (by simpa using h),leaf_flat F i l]
theorem filter_take {α:Type} (p:α->Bool):∀(l:List α) (m:Nat),(l.take m).filter p=(l.filter p).take ((l.take m).filter p).length
 | [],m=>by simp
 |x::l,0=>by simp
 |x::l,m+1=>by
  rw[List.take_succ_cons];by_cases h:p x=true
  ·rw[List.filter_cons_of_pos h,List.filter_cons_of_pos h,List.length_cons,List.take_succ_cons,<-filter_take p l m]
  ·rw[List.filter_cons_of_neg h,List.filter_cons_of_neg h];exact filter_take p l m
theorem taken_eq (F:List Thing) (hF:∀x∈F,0<=x.2):∀(i m:Nat) (o:List Int),cntS o (flatR F i m)=takenP F i m o
 |0,m,o=>by
  unfold flatR;rw[takenP,incs_cntS];congr 1;have hall:∀x∈(rowsL F 0).take m,0<=x.2:=fun x hx=>hF x (List.mem_of_mem_take hx)
  rw[List.filter_eq_self.2 fun x hx=>by simpa using hall x hx];generalize (rowsL F 0).take m=l
  induction l with
  |nil=>rfl
  |cons x l ih=>rw[List.flatMap_cons,List.map_cons,ih];rfl
 |i+1,m,o=>by
  rw[takenP,<-taken_eq F hF i,incs_cntS,<-cntS_append];refine cntS_perm ?_ o;unfold flatR;refine(flat_split _ _).trans ?_;rw[leaf_flat];refine List.Perm.append_left _ (List.Perm.of_eq ?_);have hq:=mrg_neg F hF _ F (packs 0 (rowsL F i)) (Nat.le_refl _) hF (packs_neg 0 _);have e1:((rowsL F (i+1)).take m).filter (fun x=>decide (x.2<0))=(packs 0 (rowsL F i)).take (npk ((rowsL F (i+1)).take m)):=by
   rw[filter_take];show((mrg wt F (packs 0 (rowsL F i))).filter _).take _=_
   rw[hq];rfl
  have hnp:npk ((rowsL F (i+1)).take m)<=(packs 0 (rowsL F i)).length:=by
   have:=congrArg List.length e1;unfold npk at this ⊢;rw[List.length_take] at this;omega
  rw[e1,packs_take];refine flat_packs F i 0 _ ⟨(rowsL F i).drop (2*npk ((rowsL F (i+1)).take m)),by simp⟩ ?_;rw[List.length_take];rw[length_packs] at hnp;omega
end Ln
end Go.Proofs.YtjligbmickfbdaaGreat
namespace Go.Proofs.YtjligbmickfbdaaGreat
namespace Rf
open Bt Cn Tb
def ib (l:List Bool):List Int:=l.map fun b=>if b then 1 else 0
theorem ib_append (a b:List Bool):ib (a++b)=ib a++ib b:=List.map_append ..
theorem length_ib (l:List Bool):(ib l).length=l.length:=List.length_map ..
structure Wst (l:List Int) (n s next last:Nat):Prop where
 le:last<=n
 eq:next*2^(n-last)=fs l n+rk l s n
section
variable {l:List Int} {n s next last:Nat}
theorem wst_start:Wst l 1 0 0 0:=by
 refine⟨by omega,?_⟩;rw[Nat.zero_mul];unfold rk;rw[List.take_zero];unfold fs fs cn;simp
theorem Wst.miss (h:Wst l n s next last) (hs:s<l.length) (hn:l[s]≠(n:Int)):Wst l n (s+1) next last:=by
 refine⟨h.le,?_⟩;rw[h.eq,rk_succ l s n hs,if_neg (fun x=>hn x.2)];rfl
theorem Wst.two (h:Wst l n s next last) (hl:last<n):Wst l n s (2*next) (last+1):=by
 refine⟨hl,?_⟩;rw[<-h.eq,show n-last=(n-(last+1))+1 by omega,Nat.pow_succ];generalize 2^(n-(last+1))=P;rw[Nat.mul_comm 2 next,Nat.mul_assoc,Nat.mul_comm P 2]
theorem Wst.hit (h:Wst l n s next n) (hs:s<l.length) (h0:n≠0) (hn:l[s]=(n:Int)):next=wd l s/\Wst l n (s+1) (next+1) n:=by
 have e:=h.eq;rw[Nat.sub_self,Nat.pow_zero,Nat.mul_one] at e;refine⟨?_,Nat.le_refl _,?_⟩
 ·unfold wd
  rw[List.getD_eq_getElem?_getD,List.getElem?_eq_getElem hs,Option.getD_some,hn];simpa using e
 ·rw[Nat.sub_self,Nat.pow_zero,Nat.mul_one,rk_succ l s n hs,if_pos ⟨h0,hn⟩];omega
theorem Wst.row (h:Wst l n l.length next last):Wst l (n+1) 0 next last:=by
 refine⟨by have:=h.le;omega,?_⟩;rw[show n+1-last=(n-last)+1 by have:=h.le;omega,Nat.pow_succ,<-Nat.mul_assoc,h.eq];unfold rk;rw[List.take_length,List.take_zero,fs];unfold cn;split<;>simp
theorem Wst.small (h:Wst l n s next last) (hok:Ok l) (hn:n<=15):next<=32768:=by
 have h1:=fits l hok n hn;have h2:=cn_take_le l s n;have h3:=h.eq;have h4:2^n<=2^15:=Nat.pow_le_pow_right (by omega) hn;have h5:1<=2^(n-last):=Nat.one_le_two_pow;have h6:next*1<=next*2^(n-last):=Nat.mul_le_mul_left _ h5;unfold rk at h3;omega
end
theorem runs_take {l:List Int} {i k:Nat} {R:List (Int×Int)} {x:Int} (h:runs (l.take k)=R++[(x,((k-i:Nat):Int))]) (hk:k<l.length) (hx:l[k]=x) (hik:i<k):runs (l.take (k+1))=R++[(x,((k+1-i:Nat):Int))]:=by
 unfold runs at *
 rw[List.take_add_one,List.getElem?_eq_getElem hk,List.foldl_append,h];simp only[Option.toList_some,List.foldl_cons,List.foldl_nil];unfold stepR;rw[List.getLast?_concat];simp only;rw[if_pos hx.symm,List.dropLast_concat];congr 3;omega
theorem runs_new {l:List Int} {k:Nat} {R:List (Int×Int)} (h:runs (l.take k)=R) (hk:k<l.length) (hl:∀y∈R.getLast?,y.1≠l[k]):runs (l.take (k+1))=R++[(l[k],1)]:=by
 unfold runs at *
 rw[List.take_add_one,List.getElem?_eq_getElem hk,List.foldl_append,h];simp only[Option.toList_some,List.foldl_cons,List.foldl_nil];unfold stepR;rcases hg:R.getLast? with _|⟨y,c⟩
 ·rfl
 ·simp only
  rw[if_neg (hl (y,c) hg)]
theorem tb_snoc (R:List (Int×Int)) (x:Int×Int):tb (R++[x])=tb R++(toB 4 x.1.toNat++gam x.2.toNat):=by unfold tb;rw[List.flatMap_append];simp
def addB:Nat->List Bool->Nat
 |0,_=>0
 |k+1,l=>2*addB k l+(if l[k]?.getD false then 1 else 0)
theorem addB_eq (l:List Bool):∀k,addB k l=ofB (l.take k++List.replicate (k-l.length) false)
 |0=>by simp[addB,ofB]
 |k+1=>by
  rw[addB,addB_eq l k];by_cases h:k<l.length
  ·rw[List.take_add_one,List.getElem?_eq_getElem h,show k-l.length=0 by omega,show k+1-l.length=0 by omega]
   simp only[Option.toList_some,List.replicate_zero,List.append_nil,Option.getD_some];rw[ofB_append];simp only[List.length_cons,List.length_nil,ofB];cases l[k]<;>simp<;>omega
  ·rw[List.getElem?_eq_none (by omega),List.take_of_length_le (by omega),List.take_of_length_le (by omega),show k+1-l.length=(k-l.length)+1 by omega,List.replicate_succ',<-List.append_assoc,ofB_append (l++_)]
   simp[ofB];omega
theorem addB_lt (l:List Bool) (k:Nat):addB k l<2^k:=by
 rw[addB_eq];have:=ofB_lt (l.take k++List.replicate (k-l.length) false)
 rwa [show(l.take k++List.replicate (k-l.length) false).length=k by simp;omega] at this
theorem byt_step {l:List Bool} {i:Nat} (h:i<l.length):byt (l.drop i)=UInt8.ofNat (addB 8 (l.drop i))::byt (l.drop (i+8)):=by
 rw[byt,dif_neg (by rw[List.length_drop];omega),addB_eq,List.drop_drop]
end Rf
end Go.Proofs.YtjligbmickfbdaaGreat
namespace Go.Proofs.YtjligbmickfbdaaGreat
namespace Rf
open Go.RowKit Bt
theorem digits_set {wd k N:Nat} (hk:0<k) (hw:k<=wd):(List.replicate k 0++ib (toB (wd-k) N)).set (k-1) ((N/2^(wd-k)%2:Nat):Int)=List.replicate (k-1) 0++ib (toB (wd-(k-1)) N):=by
 obtain⟨j,rfl⟩:∃j,k=j+1:=⟨k-1,by omega⟩
 rw[Nat.add_sub_cancel,List.replicate_succ',List.append_assoc,List.set_append_right _ _ (by simp),List.length_replicate,Nat.sub_self,show wd-j=(wd-(j+1))+1 by omega,toB];congr 1;unfold ib;rw[List.map_cons];show _::_=_
 congr 1;have:N/2^(wd-(j+1))%2=0∨N/2^(wd-(j+1))%2=1:=by omega
 rcases this with h|h<;>rw[h]<;>rfl
set_option maxHeartbeats 3200000 in
set_option maxRecDepth 100000 in
theorem digits_any (N wd:Nat) (w:World) (hw:wd<=32) (hN:N<=4294967295) :
  Calls Tryz.prog 136 #[.int .i64 (N:Int),.int .i64 (wd:Int)] w fun e w'=>∃v b,e=.returned (.tuple #[v,.bool b])/\Own w' w.heap.size v (ib (toB wd N))/\Below w.heap.size w w':=by
 have h0: ¬ (wd:Int)<0:=by omega
 have h1: ¬ (wd:Int)>32:=by omega
 have h2: ¬ (N:Int)<0:=by omega
 go_enter Tryz.func136, Tryz.ntmps136
 go_wp2_with (at_make;(refine make1 (n:=wd) (by omega) (Nat.le_refl w.heap.size) ?_);intro w1 hown1 hg1)
 have hb1:Below w.heap.size w w1:=(Below.refl _ _).grown hg1 (Nat.le_refl _) (by simp);have H0:Aside (Own w1 w.heap.size (.slice (some ⟨w.heap.size,0,none⟩) wd wd) (List.replicate wd 0++ib (toB (wd-wd) N))/\Below w.heap.size w w1):=⟨by rw[Nat.sub_self];simpa[toB,ib] using hown1,hb1⟩
 clear hg1 hown1 hb1;go_loopg [0,7] wd (fun kx s0 s7 wr=>∃(k:Nat),s7=.int .i64 ((k:Int)-1)/\s0=.int .i64 ((N/2^(wd-k):Nat):Int)/\k<=wd/\k<=kx/\Aside (Own wr w.heap.size (.slice (some ⟨w.heap.size,0,none⟩) wd wd) (List.replicate k 0++ib (toB (wd-k) N))/\Below w.heap.size w wr))
 case atStart=>exact⟨wd,by go_num,by rw[Nat.sub_self,Nat.pow_zero,Nat.div_one],by omega,by omega,H0.out⟩
 case round =>
  clear H0;obtain⟨k,rfl,rfl,hk,hkx,H⟩:=hrel;rcases k with _|k
  ·go_wp2_with fail
   go_ret2
   refine⟨_,_,rfl,?_,H.out.2⟩;have:=H.out.1;simpa using this
  ·have hle:N/2^(wd-(k+1))<=N:=Nat.div_le_self _ _
   have hc:=H.out.1.cell (k:=k) (x:=0) (by rw[List.getElem?_append_left (by simp)];simp);have hf:=H.out.1.frozen (k:=k);have HN:Aside _:=Own.put2 (k:=k) H.out ((N/2^(wd-(k+1))%2:Nat):Int);have hs:=digits_set (wd:=wd) (k:=k+1) (N:=N) (by omega) hk;rw[Nat.add_sub_cancel] at hs;rw[hs] at HN;have hn2:N/2^(wd-k)=N/2^(wd-(k+1))/2:=by
    rw[Nat.div_div_eq_div_mul,<-Nat.pow_succ];congr 2;omega
   have HN2:=Lib.hid hn2;generalize N/2^(wd-(k+1))=y at *
   have i1:((k+1:Nat):Int)-1=(k:Int):=by omega
   have i2:(k:Int)>=0:=by omega
   have i3:(k:Int)<(wd:Int):=by omega
   have i4:(0:Int)<=(k:Int):=by omega
   clear hs hn2;rw[i1];go_wp2_with fail
   go_roundg k
   case measure=>omega
   case rel=>exact⟨k,by go_num,by rw[HN2.out];go_num,by omega,by omega,HN.out⟩
end Rf
end Go.Proofs.YtjligbmickfbdaaGreat
namespace Go.Proofs.YtjligbmickfbdaaGreat
namespace Rf
open Go.RowKit Bt
theorem appendAll {ops:Array Oper} {rest:List Oper} {o:Oper} {a:Act} {Q:Exit->Act->World->Prop} {s x:Operand} {B n c:Nat} {A:Option Addr} {v:Value} {l r:List Int} {w:World} (hown:Own w B v l) (hr:Rd w w.heap.size 1 A n (r.map (Value.int .i64))) (hl:l.length<=1099511627776) (hn:n<=1099511627776) (hB:B<=w.heap.size)
  (h:∀A' n' c' w',Hid (n'=l.length+n)->Own w' B (.slice A' n' c') (l++r)->Below B w w'->w.grownBy w' v.ownBlock->wpList Tryz.prog ops Q rest (a.put o.dst (.slice A' n' c')) w')
  (hgd:o.guard=none:=by exact rfl) (ho:o.op=.call { callee:=.builtin .append,args:=#[s,x],argTypes:=#[28,28] }:=by exact rfl)
  (hs:a.eval s=v:=by exact rfl) (hx:a.eval x=.slice A n c:=by exact rfl) :
  wpList Tryz.prog ops Q (o::rest) a w:=by
 obtain⟨i0,hi,hz0,hz1,hz2⟩:=info_parts int_info;refine wpList_append_rd w hgd s x 28 ho B 3 i0 (.int .i64 0) 1 8 Tryz.underlying28 hi hz0 hz1 hz2 rfl (by omega) v l.length (l.map (Value.int .i64)) hs hown
  w.heap.size _ n c (r.map (Value.int .i64)) hx hr ?_ (by simp only[maxLen];omega) (by omega) hB ?_
 ·intro u hu
  obtain⟨y,_,rfl⟩:=List.mem_map.1 hu;rfl
 intro v' w' hown' hg _;have hlt:=World.ownsRow.lt hown;obtain⟨A',c',rfl,_,_⟩:=own_slice hown';have hrl:=hr.len;rw[List.length_map] at hrl;refine h A' _ c' w' rfl ?_ ((Below.refl _ _).grown hg hB (fun k hk=>(hlt k hk).1)) hg;unfold Own;rw[List.length_append,List.map_append,show r.length=n by omega];exact hown'
theorem bl_half {n:Nat} (h:1<n):bl n=bl (n/2)+1:=by
 unfold bl;rw[if_neg (by omega),if_neg (by omega),Nat.log2_def n,if_pos (by omega)]
theorem bl_one:bl 1=1:=by unfold bl;rw[if_neg (by omega)];rfl
theorem bl_le32 {n:Nat} (h0:0<n) (h:n<=4294967295):bl n<=32:=by
 have h1:=(bl_spec n h0).1;have h2:=(bl_spec n h0).2.2;by_cases hh:bl n<=32
 ·exact hh
 ·have:2^32<=2^(bl n-1):=Nat.pow_le_pow_right (by omega) (by omega)
  omega
theorem ib_gam (n:Nat):List.replicate (bl n-1) 0++ib (toB (bl n) n)=ib (gam n):=by
 unfold gam;rw[ib_append,toB_zero];congr 1;unfold ib;rw[List.map_replicate];rfl
set_option maxHeartbeats 3200000 in
set_option maxRecDepth 100000 in
theorem gamma_any (N:Nat) (w:World) (h0:0<N) (hN:N<=4294967295) :
  Calls Tryz.prog 137 #[.int .i64 (N:Int)] w fun e w'=>∃v b,e=.returned (.tuple #[v,.bool b])/\Own w' w.heap.size v (ib (gam N))/\Below w.heap.size w w':=by
 have h1: ¬ (N:Int)<1:=by omega
 have h2: ¬ (N:Int)>4294967295:=by omega
 have hb:=bl_le32 h0 hN;have hb0:=(bl_spec N h0).2.2;have HG:=Lib.hid (ib_gam N);have HD:=Lib.hid (fun w=>digits_any N (bl N) w hb hN);generalize hK:bl N=K at *
 have HK:=Lib.hid hK;clear hK
 go_enter Tryz.func137, Tryz.ntmps137
 go_wp2_with fail
 go_loopg [4,5] N (fun kx s4 s5 wr=>∃(k m:Nat),s4=.int .i64 (k:Int)/\s5=.int .i64 (m:Int)/\m<=kx/\m<=N/\0<m/\k<=31/\Hid (bl m+k=K)/\Aside (w=wr))
 case atStart=>exact⟨0,N,by go_num,by go_num,by omega,by omega,by omega,by omega,HK.out,rfl⟩
 case round =>
  obtain⟨k,m,rfl,rfl,hm,hmN,hm0,hk31,hk,hw⟩:=hrel;obtain rfl:=hw.out;by_cases hm1:1<m
  ·have hbh:=bl_half hm1
   have hkk:=hk.out;have hp:=(bl_spec (m/2) (by omega)).2.2;have hk2:k+1<=31:=by omega
   have hk3:Hid (bl (m/2)+(k+1)=K):=by show _=_;omega
   clear hbh hkk hp;go_wp2_with fail
   go_roundg (m/2)
   case measure=>omega
   case rel=>exact⟨k+1,m/2,by go_num,by go_num,by omega,by omega,by omega,hk2,hk3,rfl⟩
  ·obtain rfl:m=1:=by omega
   have hkk:=hk.out;rw[bl_one] at hkk;obtain rfl:K=k+1:=by omega
   have HG2:=HG.out;rw[Nat.add_sub_cancel] at HG2;have HG2:=Lib.hid HG2;clear hkk HG;go_wp2_with (first|(go_at_call 136;refine(HD.out _).mono ?_;rintro e1 w1 ⟨v1,b1,rfl,hown1,hb1⟩;obtain⟨A1,c1,rfl,-,-,hrd1⟩:=hown1.rd)|(at_make;(refine make1 (n:=k) (by omega) hb1.size ?_);intro w2 hown2 hg2;have hb2:Below w.heap.size w w2:=hb1.grown hg2 hb1.size (by simp);have hbb:=(Below.refl w1.heap.size w1).grown hg2 (Nat.le_refl _) (by simp);have hrd2:=hrd1.ext hbb)|(at_builtin;refine appendAll hown2 hrd2 (by simp;omega) (by rw[length_ib,length_toB];omega) hb2.size ?_;intro A3 n3 c3 w3 hn3 hown3 hb3 hg3))
   go_ret2
   exact⟨_,_,rfl,HG2.out▸hown3,hb2.trans hb3⟩
end Rf
end Go.Proofs.YtjligbmickfbdaaGreat
namespace Go.Proofs.YtjligbmickfbdaaGreat
namespace Rf
open Go.RowKit Bt
theorem ib_at {L:List Bool} {k:Nat} (h:k<L.length):(ib L)[k]? =some (if L[k]?.getD false then 1 else 0):=by
 unfold ib;rw[List.getElem?_map,List.getElem?_eq_getElem h];rfl
theorem byt_none {L:List Bool} {i:Nat} (h:L.length<=i):byt (L.drop i)=[]:=by
 rw[List.drop_eq_nil_of_le h,byt_nil]
theorem addB_in {L:List Bool} {i k:Nat} (h:i+k<L.length):∃y:Nat,(ib L)[i+k]? =some (y:Int)/\y<=1/\addB (k+1) (L.drop i)=2*addB k (L.drop i)+y:=by
 refine⟨if L[i+k]?.getD false then 1 else 0,?_,?_,?_⟩
 ·rw[ib_at h];split<;>rfl
 ·split<;>omega
 ·rw[addB,List.getElem?_drop]
theorem addB_out {L:List Bool} {i k:Nat} (h: ¬ i+k<L.length):addB (k+1) (L.drop i)=2*addB k (L.drop i):=by
 rw[addB,List.getElem?_drop,List.getElem?_eq_none (by omega)];rfl
set_option maxHeartbeats 6400000 in
set_option maxRecDepth 100000 in
theorem text_any (L:List Bool) (A:Option Addr) (n c:Nat) (w:World) (hr:Rd w w.heap.size 1 A n ((ib L).map (Value.int .i64))) (hn:n<=10000000) :
  Calls Tryz.prog 49 #[.slice A n c] w fun e w'=>e=.returned (.string ⟨(byt L).toArray⟩)/\Below w.heap.size w w':=by
 have hL:L.length=n:=by have:=hr.len;rw[List.length_map,length_ib] at this;omega
 have HR:=Lib.hid hr;clear hr
 go_enter Tryz.func49, Tryz.ntmps49
 go_wp2_with fail
 go_loopg [3,4] n (fun kx s3 s4 wr=>∃(i:Nat) (acc:List UInt8),s4=.int .i64 (i:Int)/\i<=n+7/\n-i<=kx/\acc.length<=i/\Hid (acc++byt (L.drop i)=byt L)/\Aside (OwnB wr w.heap.size s3 acc/\Below w.heap.size w wr))
 case atStart=>exact⟨0,[],by go_num,by omega,by omega,by simp,(by show _=_;simp),World.ownsRow_nil _ _ _ _,Below.refl _ _⟩
 case round =>
  obtain⟨i,acc,rfl,hi,hik,hacc,he,H⟩:=hrel;by_cases hlt:i<n
  ·obtain⟨ad,rfl,hblk,hcs⟩:=(HR.out.below H.out.2).cells (show 0<n by omega)
   have hcs:=Lib.hid hcs;go_wp2_with fail
   go_loopg [5,6] 8 (fun kx2 s5 s6 wr2=>∃(k:Nat),s5=.int .i64 (addB k (L.drop i):Int)/\s6=.int .i64 (k:Int)/\k<=8/\8-k<=kx2/\Aside (wr=wr2))
   case atStart=>exact⟨0,by simp[addB],by go_num,by omega,by omega,rfl⟩
   case round =>
    obtain⟨k,rfl,rfl,hk,hk2,hw⟩:=hrel;obtain rfl:=hw.out;have hbd:=addB_lt (L.drop i) k;have hbd2:addB k (L.drop i)<256:=Nat.lt_of_lt_of_le hbd (Nat.pow_le_pow_right (n:=2) (j:=8) (by omega) hk);clear hbd;by_cases hk8:k<8
    ·by_cases hin:i+k<n
     ·obtain⟨y,hy,hy1,hst⟩:=addB_in (L:=L) (i:=i) (k:=k) (by omega)
      have hcell:=hcs.out (i+k) (.int .i64 (y:Int)) (by rw[List.getElem?_map,hy];rfl);have hst:=Lib.hid hst;clear hy;generalize hB:addB k (L.drop i)=B at *
      clear hB;go_wp2_with fail
      go_roundg (7-k)
      case measure=>omega
      case rel=>exact⟨k+1,by rw[hst.out];go_num,by go_num,by omega,by omega,rfl⟩
     ·have hst:=Lib.hid (addB_out (L:=L) (i:=i) (k:=k) (by omega))
      generalize hB:addB k (L.drop i)=B at *
      clear hB;go_wp2_with fail
      go_roundg (7-k)
      case measure=>omega
      case rel=>exact⟨k+1,by rw[hst.out];go_num,by go_num,by omega,by omega,rfl⟩
    ·have hbs:Hid (byt (L.drop i)=UInt8.ofNat (addB k (L.drop i))::byt (L.drop (i+8))):=by rw[show k=8 by omega];exact byt_step (by omega)
     have hzz:Hid (((addB k (L.drop i):Nat):Int)=((UInt8.ofNat (addB k (L.drop i))).toNat:Int)):=by show _=_;simp only[UInt8.toNat_ofNat'];omega
     have h8: ¬ (k:Int)<8:=by omega
     clear hw hk2 hk hk8;generalize hB:addB k (L.drop i)=B at *
     clear hB;go_wp2_with (at_builtin;refine appendB (UInt8.ofNat B) hzz.out H.out.1 (by omega) H.out.2.size ?_;intro A1 n1 c1 w1 _ hown1 hb1 _ _)
     go_roundg (n-(i+8))
     case measure=>omega
     case rel=>exact⟨i+8,acc++[UInt8.ofNat B],by go_num,by omega,by omega,by simp;omega,(by show _=_;rw[<-he.out,hbs.out];simp),hown1,H.out.2.trans hb1⟩
  ·have hby:=byt_none (L:=L) (i:=i) (by omega)
   have hee:=he.out;rw[hby,List.append_nil] at hee;subst hee;obtain⟨A2,c2,rfl,-,-,hrd2⟩:=H.out.1.rd;have hs2:=run_str (c:=c2) hrd2;go_wp2_with fail
   go_ret
   exact⟨rfl,H.out.2⟩
end Rf
end Go.Proofs.YtjligbmickfbdaaGreat
namespace Go.Proofs.YtjligbmickfbdaaGreat
namespace Rf
open Go.RowKit Ln
abbrev RT:=Int×(Option Addr×Nat×Nat)×Bool
def svT (x:RT):Value:=.slice x.2.1.1 x.2.1.2.1 x.2.1.2.2
def cT (x:RT):List Value:=[.int .i64 x.1,.slice x.2.1.1 x.2.1.2.1 x.2.1.2.2,.bool x.2.2]
def fT (l:List RT):List Value:=l.flatMap cT
theorem fT_app (a b:List RT):fT (a++b)=fT a++fT b:=List.flatMap_append ..
theorem fT_one (l:List RT):∀u∈fT l,u.oneCell'=true:=by
 intro u hu;obtain⟨y,_,hy⟩:=List.mem_flatMap.1 hu;simp[cT] at hy
 rcases hy with rfl|rfl|rfl<;>rfl
theorem fT_len (l:List RT):(fT l).length=l.length*3:=by
 induction l with
 |nil=>rfl
 |cons x l ih =>
  have e:fT (x::l)=.int .i64 x.1:: .slice x.2.1.1 x.2.1.2.1 x.2.1.2.2:: .bool x.2.2::fT l:=rfl;rw[e,List.length_cons,List.length_cons,List.length_cons,List.length_cons,ih];omega
theorem fT_drop (l:List RT):∀k,(fT l).drop (k*3)=fT (l.drop k):=by
 induction l with
 |nil=>intro k;simp[fT]
 |cons x l ih =>
  intro k;have e:fT (x::l)=.int .i64 x.1:: .slice x.2.1.1 x.2.1.2.1 x.2.1.2.2:: .bool x.2.2::fT l:=rfl;rcases k with _|k
  ·rw[Nat.zero_mul];rfl
  ·rw[e,show(k+1)*3=k*3+1+1+1 by omega,List.drop_succ_cons,List.drop_succ_cons,List.drop_succ_cons,ih,List.drop_succ_cons]
theorem fT_take (l:List RT):∀k,(fT l).take (k*3)=fT (l.take k):=by
 induction l with
 |nil=>intro k;simp[fT]
 |cons x l ih =>
  intro k;have e:fT (x::l)=.int .i64 x.1:: .slice x.2.1.1 x.2.1.2.1 x.2.1.2.2:: .bool x.2.2::fT l:=rfl;rcases k with _|k
  ·rw[Nat.zero_mul];rfl
  ·rw[e,show(k+1)*3=k*3+1+1+1 by omega,List.take_succ_cons,List.take_succ_cons,List.take_succ_cons,ih,List.take_succ_cons];rfl
theorem fT_at (l:List RT) (k:Nat) (x:RT) (h:l[k]? =some x):(fT l)[k*3]? =some (.int .i64 x.1)/\(fT l)[k*3+1]? =some (.slice x.2.1.1 x.2.1.2.1 x.2.1.2.2)/\(fT l)[k*3+2]? =some (.bool x.2.2):=by
 have hd:(fT l).drop (k*3)=cT x++fT (l.drop (k+1)):=by
  rw[fT_drop];obtain⟨hk,e⟩:=List.getElem?_eq_some_iff.1 h;rw[List.drop_eq_getElem_cons hk,e];rfl
 refine⟨?_,?_,?_⟩
 ·rw[show k*3=k*3+0 from rfl,<-List.getElem?_drop,hd];rfl
 ·rw[<-List.getElem?_drop,hd];rfl
 ·rw[<-List.getElem?_drop,hd];rfl
theorem thingEl:El 191 188 (.agg #[.int .i64 0,.slice none 0 0,.bool false]) 3 40:=⟨by kernel_rfl,Tryz.underlying188,rfl,by decide,by decide⟩
theorem argT_cell {w w':World} {ad:Addr} {n c k:Nat} {x:RT} {l:List RT} (h:ArgV w 3 (some ad) n c (fT l)) (hb:Below w.heap.size w w') (hk:l[k]? =some x) :
  w'.cell? (ad.add (k*3))=some (.int .i64 x.1)/\w'.cell? ⟨(ad.add (k*3)).block,(ad.add (k*3)).off+1,none⟩=some (.slice x.2.1.1 x.2.1.2.1 x.2.1.2.2)/\w'.cell? ⟨(ad.add (k*3)).block,(ad.add (k*3)).off+2,none⟩=some (.bool x.2.2):=by
 have hn:0<n:=by
  have:=(List.getElem?_eq_some_iff.1 hk).1;have:=h.rd.len;rw[fT_len] at this;omega
 obtain⟨ad',e,_,hc⟩:=(h.rd.ext hb).cells hn;cases e
 obtain⟨h1,h2,h3⟩:=fT_at l k x hk;have c1:=hc _ _ h1;have c2:=hc _ _ h2;have c3:=hc _ _ h3;rw[<-add_add] at c2 c3;exact⟨c1,c2,c3⟩
def goT (x y:RT):Bool:=decide (y.1<x.1)||(decide (y.1=x.1)&&(y.2.2|| !x.2.2))
def putT (x:RT):List RT->List RT
 | []=>[x]
 |y::r=>if goT x y=true then y::putT x r else x::y::r
theorem putT_at (x:RT):∀(l:List RT) (k:Nat),k<=l.length->(∀y∈l.take k,goT x y=true)->(∀y,l[k]? =some y->goT x y=false)->putT x l=l.take k++[x]++l.drop k
 | [],0,_,_,_=>rfl
 | [],k+1,h,_,_=>by simp at h
 |y::l,0,_,_,h=>by
  have:=h y rfl;rw[putT,if_neg (by rw[this];simp)];rfl
 |y::l,k+1,hk,h,h'=>by
  rw[putT,if_pos (h y (by simp)),putT_at x l k (by simpa using hk) (fun z hz=>h z (by simp[hz])) (fun z hz=>h' z (by simpa using hz))];rfl
end Rf
end Go.Proofs.YtjligbmickfbdaaGreat
