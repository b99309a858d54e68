/- lens.Best. -/
import Derived.Test.YtjligbmickfbdaaGreatBe32
import Derived.Test.YtjligbmickfbdaaGreatBe33
namespace Go.Proofs.YtjligbmickfbdaaGreat
namespace Ln
open Go.RowKit Go.Lib Go.Sort St
open Bt (Frm)
def OwnS (w:World) (B:Nat) (v:Value) (V:List Value):Prop:=w.ownsRow B 177 1 v V.length V
theorem rows_info:(Tryz.prog.info? 177).map (fun i=>(i.zero,i.size,i.bytes))=some (some (.slice none 0 0),1,24):=by kernel_rfl
theorem appendS {ops:Array Oper} {rest:List Oper} {o:Oper} {a:Act} {Q:Exit->Act->World->Prop} {s x:Operand} {B:Nat} {v u:Value} {V:List Value} {w0:World} (hu:u.oneCell'=true) (hown:OwnS w0 B v V) (hl:V.length<=1000000) (hB:B<=w0.heap.size)
  (h:∀v' w',OwnS w' B v' (V++[u])->Below B w0 w'->w0.grownBy w' v.ownBlock->(v'.ownBlock=v.ownBlock∨ ∃g,v'.ownBlock=some g/\w0.heap.size<=g)->wpList Tryz.prog ops Q rest (a.put o.dst v') w')
  (hgd:o.guard=none:=by exact rfl) (ho:o.op=.call { callee:=.builtin .append,args:=#[s,x],argTypes:=#[181,181] }:=by exact rfl)
  (hs:a.eval s=v:=by exact rfl) (hx:a.eval x=.slice (some ⟨w0.heap.size,0,none⟩) 1 1:=by exact rfl) :
  wpList Tryz.prog ops Q (o::rest) a (w0.alloc (.cells #[u] 177)):=by
 obtain⟨i0,hi,hz0,hz1,hz2⟩:=info_parts rows_info;refine wpList_append_own_at _ hgd s x 181 ho B 177 i0 (.slice none 0 0) 1 24 Tryz.underlying181 hi hz0 hz1 hz2 rfl (by omega) v V.length V hs (hown.alloc _)
  ⟨w0.heap.size,0,none⟩ 1 1 [u] hx rfl (cell_one_new w0 _ _) (by intro z hz;simp at hz;subst hz;exact hu) (by simp only[maxLen];omega) (by omega) (by simp;omega) ?_
 intro v' w' hown' hg _ hat;have hg0:w0.grownBy w' v.ownBlock:=(World.grownBy_alloc w0 _ v.ownBlock).trans hg;have hlt:=World.ownsRow.lt hown;refine h v' w' ?_ ((Below.refl _ _).grown hg0 hB (fun k hk=>(hlt k hk).1)) hg0 ?_
 ·unfold OwnS;rw[List.length_append];exact hown'
 ·rcases hat with e|e
  ·exact .inl e
  ·exact .inr ⟨_,e,by simp⟩
theorem packs_le (M:Int):∀(i:Nat) (l:List Thing),(∀x∈l,x.1<=M)-> ∀x∈packs i l,x.1<=2*M
 |_,[],_,x,h=>by simp[packs] at h
 |_,[_],_,x,h=>by simp[packs] at h
 |i,a::b::r,hl,x,h=>by
  rw[packs] at h;rcases List.mem_cons.1 h with rfl|h
  ·have:=hl a (by simp);have:=hl b (by simp);show a.1+b.1<=_;omega
  ·exact packs_le M (i+1) r (fun y hy=>hl y (by simp[hy])) x h
theorem rows_le {F:List Thing} (hF:∀x∈F,x.1<=1000000):∀i,∀x∈rowsL F i,x.1<=1000000*2^i
 |0,x,h=>by have:=hF x h;omega
 |i+1,x,h=>by
  rcases(mrg_mem F (packs 0 (rowsL F i))).1 h with h|h
  ·have:=hF x h
   have h1:(1:Int)<=2^(i+1):=by exact_mod_cast Nat.one_le_two_pow
   omega
  ·have:=packs_le _ 0 _ (rows_le hF i) x h
   rw[Int.pow_succ];omega
theorem rows_ge {F:List Thing}:∀i,F.length<=(rowsL F i).length
 |0=>Nat.le_refl _
 |i+1=>by show _<=(mrg wt F (packs 0 (rowsL F i))).length;rw[length_mrg];omega
def VOk (w:World) (go gr:Nat) (V:List Value) (F:List Thing):Prop:=∀i,i<V.length-> ∃g c,V[i]? =some (.slice (some ⟨g,0,none⟩) (rowsL F i).length c)/\(rowsL F i).length<=c/\g≠go/\g≠gr/\g<w.heap.size/\Sl2 w w.heap.size g 0 (rowsL F i).length (rowsL F i)
theorem VOk.below {w w':World} {go gr:Nat} {V:List Value} {F:List Thing} (h:VOk w go gr V F) (hb:Below w.heap.size w w'):VOk w' go gr V F:=fun i hi=>by
 obtain⟨g,c,h1,h2,h3,h4,h5,h6⟩:=h i hi;exact⟨g,c,h1,h2,h3,h4,by have:=hb.size;omega,(Rd.below h6 hb).more hb.size⟩
theorem VOk.snoc {w w':World} {go gr gr' g c:Nat} {V:List Value} {F:List Thing} (h:VOk w go gr V F) (hg:w.grownBy w' (some gr)) (hgr:gr'=gr∨w.heap.size<=gr')
  (hc:(rowsL F V.length).length<=c) (hgo:g≠go) (hgg:g≠gr) (hlt:g<w.heap.size) (hs:Sl2 w w.heap.size g 0 (rowsL F V.length).length (rowsL F V.length)) :
  VOk w' go gr' (V++[.slice (some ⟨g,0,none⟩) (rowsL F V.length).length c]) F:=by
 have hf:Frm w w' gr none:=⟨hg.os,hg.tape,hg.output,hg.size,fun k hk hb _=>hg.block k hk (fun e=>hb (Option.some.inj e))⟩
 intro i hi;rw[List.length_append,List.length_singleton] at hi;by_cases hlt2:i<V.length
 ·obtain⟨g,c,h1,h2,h3,h4,h5,h6⟩:=h i hlt2
  exact⟨g,c,by rw[List.getElem?_append_left hlt2];exact h1,h2,h3,by rcases hgr with rfl|hgr;exact h4;omega,Nat.lt_of_lt_of_le h5 hg.size,(h6.frm hf (Nat.le_refl _) h4 (by simp)).more hg.size⟩
 ·obtain rfl:i=V.length:=by omega
  exact⟨g,c,by rw[List.getElem?_append_right (Nat.le_refl _),Nat.sub_self];rfl,hc,hgo,by rcases hgr with rfl|hgr;exact hgg;omega,Nat.lt_of_lt_of_le hlt hg.size,(hs.frm hf (Nat.le_refl _) hgg (by simp)).more hg.size⟩
theorem length_sets:∀(xs:List Thing) (o:List Int),(xs.foldl (fun o x=>o.set x.2.toNat 1) o).length=o.length
 | [],_=>rfl
 |x::r,o=>by rw[List.foldl_cons,length_sets r];simp
set_option maxHeartbeats 6400000 in
set_option maxRecDepth 100000 in
theorem best_any (A:Option Addr) (n c:Nat) (l:List Int) (w:World) (hn:n<=257) (hok:∀x∈l,0<=x/\x<=1000000) (hrd:Rd w w.heap.size 1 A n (l.map (Value.int .i64))) :
  Calls Tryz.prog 85 #[.slice A n c,.int .i64 15] w fun e w'=>∃v,e=.returned (.tuple #[v,.int .i64 0])/\Own w' w.heap.size v (bestL l 15)/\RowKit.Below w.heap.size w w':=by
 have mixed:Tryz.prog.follows .mixedOrders=true:=by kernel_rfl
 have hln:l.length=n:=by simpa using hrd.len
 have hrf:=refused_any A n c l w hn hok hrd;have HRF:=Lib.hid hrf;have HR:=Lib.hid hrd;have HL:=Lib.hid hln;have HS:=Lib.hid (syms_lv l);have hFl:(stab wt (lv 0 l)).length<=257:=by rw[length_stab];have:=length_lv l 0;omega
 have hFb:∀x∈stab wt (lv 0 l),x.1<=1000000:=by
  intro x hx;obtain⟨i,hi,rfl,_⟩:=lv_of_mem l 0 x ((stab_perm wt (lv 0 l)).mem_iff.1 hx);exact(hok _ (List.getElem_mem hi)).2
 have HFL:=Lib.hid hFl;have HFB:=Lib.hid hFb;have hbest:bestL l 15=if(stab wt (lv 0 l)).length<2 then(stab wt (lv 0 l)).foldl (fun o x=>o.set x.2.toNat 1) (List.replicate l.length 0) else takenP (stab wt (lv 0 l)) 14 (2*(stab wt (lv 0 l)).length-2) (List.replicate l.length 0):=rfl
 have HBE:=Lib.hid hbest;have hlv:=fun A c (w:World) hrd=>leaves_any A n c l w (by omega) hrd
 generalize bestL l 15=bst at *
 have HLV:=Lib.hid hlv;generalize hFe:stab wt (lv 0 l)=F at *
 have HFE:=Lib.hid hFe;clear hrf hrd hln hFl hFb hbest hok hlv hFe
 go_enter Tryz.func85, Tryz.ntmps85
 go_wp2_with fail
 refine HRF.out.mono ?_;rintro e1 w1 ⟨rfl,m,rfl⟩;have hb1:RowKit.Below w.heap.size w (w.drewN m):=below_drewN (RowKit.Below.refl _ _) m;generalize w.drewN m=w1 at *
 have hs1:=hb1.size;go_wp2_with (at_make;(refine make1 (n:=n) (by omega) (Nat.le_refl w1.heap.size) ?_);intro w2 hown2 hg2)
 have hb2:RowKit.Below w1.heap.size w1 w2:=(Below.refl _ _).grown hg2 (Nat.le_refl _) (by simp);have hb12:=hb1.trans (hb2.mono hs1);have hrd2:=(HR.out.below hb12).more hb12.size;go_wp2_with fail
 refine(HLV.out A c w2 hrd2).mono ?_;rintro e1 w3 ⟨v3,rfl,hown3,hb3⟩;obtain⟨A3,c3,rfl,hc3,_⟩:=own_slice hown3;have hgo2:w1.heap.size<w2.heap.size:=(World.ownsRow.lt hown2 _ rfl).2;have hb13:=hb12.trans (hb3.mono hb12.size);have ho3:Own w3 w1.heap.size (.slice (some ⟨w1.heap.size,0,none⟩) n n) (List.replicate n 0):=hown2.below hb3 (Nat.le_refl _);have HO3:=Lib.hid ho3;have HB13:=Lib.hid hb13;have HOWN3:=Lib.hid hown3;have hs3:=hb3.size;obtain⟨go,hgo⟩:∃go,go=w1.heap.size:=⟨_,rfl⟩
 rw[<-hgo] at HO3 hgo2 hs1;have HGO:=Lib.hid hgo;rw[<-hgo];have hFl:=HFL.out;clear hgo hown2 hown3 hb2 hb3 hb12 hb13 ho3 hrd2 HLV HRF hg2 hb1;by_cases hfew:F.length<2
 ·go_wp2_with fail
  go_loopg [28] F.length (fun kx s28 wr=>∃(k:Nat),s28=.int .i64 (k:Int)/\k<=F.length/\F.length-k<=kx /\
   Aside (Own wr go (.slice (some ⟨go,0,none⟩) n n) ((F.take k).foldl (fun o x=>o.set x.2.toNat 1) (List.replicate n 0))/\Frm w3 wr go none))
  case atStart=>exact⟨0,rfl,by omega,by omega,HO3.out,Frm.refl _ _ _⟩
  case round =>
   obtain⟨k,rfl,hk,hkx,HV⟩:=hrel;by_cases hlt:k<F.length
   ·have hx:F[k]? =some F[k]:=List.getElem?_eq_getElem hlt
    have hne:F≠ []:=by rintro rfl;simp at hlt
    obtain⟨g3,c3',hv,_,_,hg3⟩:=Tb.own2_some HOWN3.out hne;cases hv
    have hge:=Tb.own2_ge HOWN3.out;have hcs:=Tb.own2_cells HOWN3.out hx;have hblk:wr.heap[g3]? =w3.heap[g3]? :=HV.out.2.blk g3 hg3 (by omega) (by simp);have hx1:wr.cell? ⟨g3,k*2,none⟩=some (.int .i64 F[k].1):=by rw[World.cell?_of_block hblk,show k*2=2*k by omega];exact hcs.1
    have hx2:wr.cell? ⟨g3,k*2+1,none⟩=some (.int .i64 F[k].2):=by rw[World.cell?_of_block hblk,show k*2+1=2*k+1 by omega];exact hcs.2
    have hsym:=HS.out.sym F[k] (List.getElem_mem hlt);have hslt:=HS.out.lt F[k] (List.getElem_mem hlt);have hst:(F.take (k+1)).foldl (fun o x=>o.set x.2.toNat 1) (List.replicate n (0:Int))=((F.take k).foldl (fun o x=>o.set x.2.toNat 1) (List.replicate n 0)).set F[k].2.toNat 1:=by
     rw[List.take_add_one,hx,List.foldl_append];rfl
    have HST:=Lib.hid hst;have hlen:=length_sets (F.take k) (List.replicate n 0);rw[List.length_replicate] at hlen;have hal:Own (wr.alloc (.cells #[.int .i64 F[k].1,.int .i64 F[k].2] 180)) go (.slice (some ⟨go,0,none⟩) n n) ((F.take k).foldl (fun o x=>o.set x.2.toNat 1) (List.replicate n 0))/\Frm w3 (wr.alloc (.cells #[.int .i64 F[k].1,.int .i64 F[k].2] 180)) go none :=
     ⟨World.ownsRow.alloc HV.out.1 _,frm_alloc HV.out.2 _⟩
    generalize F[k]=x at *
    obtain⟨x1,x2⟩:=x;simp only at hsym hslt HST hx1 hx2 hal;obtain⟨s,rfl⟩:∃s:Nat,x2=(s:Int):=⟨x2.toNat,by omega⟩
    rw[Int.toNat_natCast] at hslt HST;have hsn:s<n:=by have:=HL.out;omega
    generalize (F.take k).foldl (fun o x=>o.set x.2.toNat 1) (List.replicate n (0:Int))=o1 at *
    have hy:=at_some o1 s (by omega);have hyc:=hal.1.cell hy;have hyf:=hal.1.frozen (k:=s);have HX:Aside _:=And.intro (Own.put hal.1 (k:=s) 1) (hal.2.set s (.int .i64 1));generalize o1.getD s 0=y at *
    clear hst hcs hx hy hal hblk hge;go_wp2_with fail
    go_roundg (F.length-(k+1))
    case measure=>omega
    case rel=>exact⟨k+1,by go_num,by omega,by omega,by rw[HST.out];exact HX.out⟩
   ·obtain rfl:k=F.length:=by omega
    have hbl:=HV.out.2.below (B:=w.heap.size) (by omega) (by omega) (by simp);have hres:Own wr w.heap.size (.slice (some ⟨go,0,none⟩) n n) bst:=by
     have:=HV.out.1;rw[List.take_length] at this;rw[HBE.out,if_pos hfew,HL.out];exact this.lower (by omega)
    have HX:Aside _:=And.intro hres (HB13.out.trans hbl);clear hbl hres;go_wp2_with fail
    go_ret2
    exact⟨_,rfl,HX.out.1,HX.out.2⟩
 ·have hne:F≠ []:=by rintro rfl;simp at hfew
  obtain⟨g3,c3',hv,_,_,hg3⟩:=Tb.own2_some HOWN3.out hne;cases hv
  have hge:=Tb.own2_ge HOWN3.out;have hS3:Sl2 w3 w3.heap.size g3 0 F.length F:=Rd.of_own HOWN3.out;have HS3:=Lib.hid hS3;have hr0:OwnS (w3.alloc (.cells #[.slice (some ⟨g3,0,none⟩) F.length c3] 177)) w3.heap.size (.slice (some ⟨w3.heap.size,0,none⟩) 1 1) [.slice (some ⟨g3,0,none⟩) F.length c3] :=
   World.ownsRow_lit w3 _ 1 (Nat.le_refl _) (by simp[maxLen]) rfl
  have hbw:RowKit.Below w3.heap.size w3 (w3.alloc (.cells #[.slice (some ⟨g3,0,none⟩) F.length c3] 177)):=(RowKit.Below.refl _ _).alloc (Nat.le_refl _) _;have hv0:VOk (w3.alloc (.cells #[.slice (some ⟨g3,0,none⟩) F.length c3] 177)) go w3.heap.size [.slice (some ⟨g3,0,none⟩) F.length c3] F:=by
   intro i hi;obtain rfl:i=0:=by simpa using hi
   exact⟨g3,c3,rfl,hc3,by omega,by omega,by simp;omega,(Rd.below hS3 hbw).more hbw.size⟩
  have H0:Aside _:=And.intro hr0 (And.intro hv0 hbw);clear hS3 hr0 hbw hv0;go_wp2_with fail
  generalize w3.alloc (.cells #[.slice (some ⟨g3,0,none⟩) F.length c3] 177)=w4 at *
  go_loopg [11,42] 14 (fun kx s11 s42 wr=>∃(k gr cap:Nat) (V:List Value),s42=.int .i64 (k:Int)/\k<=14/\14-k<=kx/\s11=.slice (some ⟨gr,0,none⟩) (k+1) cap/\k+1<=cap/\Hid (V.length=k+1) /\
   Aside (OwnS wr w3.heap.size (.slice (some ⟨gr,0,none⟩) (k+1) cap) V/\VOk wr go gr V F/\RowKit.Below w3.heap.size w3 wr))
  case atStart=>exact⟨0,w3.heap.size,1,[.slice (some ⟨g3,0,none⟩) F.length c3],rfl,by omega,by omega,rfl,by omega,(show Hid _ from rfl),H0.out⟩
  case round =>
   clear H0;obtain⟨k,gr,cap,V,rfl,hk,hkx,rfl,hcap,hVl,H⟩:=hrel;by_cases hlt:k<14
   ·obtain⟨g,c,hV,hc,hgo,hgr,hgl,hS⟩:=H.out.2.1 k (by have:=hVl.out;omega)
    have hcell:=World.ownsRow.cells H.out.1 (g:=gr) rfl k _ hV;rw[Addr.add_lit,Nat.zero_add] at hcell;have hgrb:=World.ownsRow.lt H.out.1 gr rfl;have hpos:=rows_pos HS.out.toLeaves k;have hle:=rows_le HFB.out k;have hpow:(1000000:Int)*2^k<=1099511627776:=by
     have:(2:Nat)^k<=2^14:=Nat.pow_le_pow_right (by omega) (by omega);have h2:((2:Int)^k)<=16384:=by exact_mod_cast this
     omega
    have hrl:=rows_len HFL.out k;have hrg:=rows_ge (F:=F) k;have HP:=Lib.hid (packages_any g (rowsL F k).length c (rowsL F k) wr (by omega) rfl hS (fun x hx=>⟨by have:=hpos x hx;unfold wt at this;omega,by have:=hle x hx;omega⟩));have hrow1:rowsL F (k+1)=mrg wt F (packs 0 (rowsL F k)):=rfl;have hpl:(packs 0 (rowsL F k)).length=(rowsL F k).length/2:=length_packs 0 _;have hrl2:=rows_len HFL.out (k+1);have hpne:packs 0 (rowsL F k)≠ []:=by
     intro e;rw[e] at hpl;simp at hpl
     omega
    have HR1:=Lib.hid hrow1;have HPN:=Lib.hid hpne;have HRL2:=Lib.hid hrl2;have hrg2:=rows_ge (F:=F) (k+1);have hppl:(packs 0 (rowsL F k)).length<=257:=by omega
    generalize packs 0 (rowsL F k)=pk at *
    generalize (rowsL F k).length=ln at *
    have e1:((k+1:Nat):Int)-1=(k:Int):=by omega
    have E1:=Lib.hid e1;clear hV hpos hle hpow hrow1 hpl hS hpne e1 hrl hrg;go_wp2_with fail
    refine HP.out.mono ?_;rintro e5 w5 ⟨v5,rfl,hown5,hb5⟩;obtain⟨g5,c5,rfl,hc5,_,hg5⟩:=Tb.own2_some hown5 HPN.out;have hs5:Sl2 w5 w5.heap.size g5 0 pk.length pk:=Rd.of_own hown5;have hb35:=H.out.2.2.trans (hb5.mono H.out.2.2.size);have hs35:Sl2 w5 w5.heap.size g3 0 F.length F:=(Rd.below HS3.out hb35).more hb35.size;have hm:=Lib.hid (merged_any g3 F.length c3 g5 pk.length c5 F pk w5 (by omega) (by omega) hc3 hc5 hs35 hs5);have H5:Aside _:=And.intro (own_below H.out.1 hb5 (Nat.le_refl _)) (And.intro (H.out.2.1.below hb5) hb35);clear hown5 hb5 hs5 hb35 hs35 hcell;go_wp2_with fail
    refine hm.out.mono ?_;rintro e6 w6 ⟨v6,rfl,hown6,hb6⟩;rw[<-HR1.out] at hown6;have hne6:rowsL F (k+1)≠ []:=by
     intro e;rw[e] at hrg2;have h0:F.length<=0:=hrg2;omega
    obtain⟨g6,c6,rfl,hc6,_,hg6⟩:=Tb.own2_some hown6 hne6;have hge6:=Tb.own2_ge hown6;have hs6:Sl2 w6 w6.heap.size g6 0 (rowsL F (k+1)).length (rowsL F (k+1)):=Rd.of_own hown6;have hb36:=H5.out.2.2.trans (hb6.mono H5.out.2.2.size);have hb56:=H5.out.2.2.size;have ho6:OwnS w6 w3.heap.size (.slice (some ⟨gr,0,none⟩) (k+1) cap) V:=own_below H5.out.1 hb6 (Nat.le_refl _);have hgrb5:=(World.ownsRow.lt H5.out.1 gr rfl).2;have hv6:=H5.out.2.1.below hb6;have hVl2:V.length<=1000000:=by have:=hVl.out;omega
    have HVL2:=Lib.hid hVl2;have H6:Aside _:=And.intro hv6 (And.intro hb36 hs6);have HO6:=Lib.hid ho6;have hgrne:g6≠gr:=by omega
    have hgone:g6≠go:=by omega
    clear hown6 hb6 hs6 hb36 H5 hm HP hv6 ho6 hVl2 hne6 H;generalize hL1:(rowsL F (k+1)).length=L1 at *
    have HL1:=Lib.hid hL1;clear hL1;go_wp2_with (at_builtin;refine appendS rfl HO6.out HVL2.out H6.out.2.1.size ?_;intro v7 w7 hown7 hb7 hg7 hat7)
    have hlen7:(V++[Value.slice (some ⟨g6,0,none⟩) L1 c6]).length=k+2:=by rw[List.length_append,List.length_singleton,hVl.out]
    obtain⟨gr7,cap7,rfl,hcap7⟩:∃gr7 cap7,v7=.slice (some ⟨gr7,0,none⟩) (k+2) cap7/\k+2<=cap7:=by
     rcases hown7.2 with ⟨hv,h1⟩|⟨g,cap,cur,hv,hg,hh,hn,_⟩
     ·rw[hlen7] at h1;omega
     ·exact⟨g,cap,by rw[hv,hlen7],by rw[hlen7] at hn;exact hn⟩
    have hgr7:gr7=gr∨w6.heap.size<=gr7:=by
     rcases hat7 with e|⟨g,e,hg⟩
     ·left;exact Option.some.inj e
     ·right;have e3:gr7=g:=Option.some.inj e;rw[e3];exact hg
    have hvk:VOk w7 go gr7 (V++[Value.slice (some ⟨g6,0,none⟩) L1 c6]) F:=by
     have:=H6.out.1.snoc (g:=g6) (c:=c6) hg7 hgr7 (by rw[hVl.out,HL1.out];exact hc6) hgone hgrne hg6 (by rw[hVl.out,HL1.out];exact H6.out.2.2)
     rwa [hVl.out,HL1.out] at this
    have HN:Aside _:=And.intro hown7 (And.intro hvk (H6.out.2.1.trans hb7));have HLN:=Lib.hid hlen7;clear hown7 hb7 hg7 hat7 hgr7 hvk hlen7 H6 HO6;go_wp2_with fail
    go_roundg (14-(k+1))
    case measure=>omega
    case rel=>exact⟨k+1,gr7,cap7,_,by go_num,by omega,by omega,rfl,by omega,HLN.out,HN.out⟩
   ·obtain rfl:k=14:=by omega
    have hlow:2*F.length-2<=(rowsL F 14).length:=by
     rcases length_rows (F:=F) 14 with h1|h1
     ·have:(F.length-1)/2^14=0:=Nat.div_eq_of_lt (by rw[show(2:Nat)^14=16384 from rfl];omega)
      omega
     ·omega
    have hgrb:=World.ownsRow.lt H.out.1 gr rfl;have hR:RowsAt wr w.heap.size go gr 15 F:=by
     refine⟨by omega,hgrb.2,fun i hi=>?_⟩;obtain⟨g,c,hV,hc,hgo,hgr,hgl,hS⟩:=H.out.2.1 i (by have:=hVl.out;omega);have hcell:=World.ownsRow.cells H.out.1 (g:=gr) rfl i _ hV;rw[Addr.add_lit,Nat.zero_add] at hcell;exact⟨g,c,hcell,hc,hgo,hS⟩
    have hown:Own wr go (.slice (some ⟨go,0,none⟩) n n) (List.replicate n 0):=HO3.out.below H.out.2.2 (Nat.le_refl _);have hT:=taken_any wr go go n gr cap 15 (2*F.length-2) n F (List.replicate n 0) (by omega) hcap HS.out.toLeaves HFL.out (fun x hx=>by have:=HS.out.lt x hx;rw[HL.out] at this;exact this) (fun _=>hlow) (by omega) (by simp) (by
     intro y hy;rw[List.eq_of_mem_replicate hy];simp) hown hR
    have HT:=Lib.hid hT;have hbw:=HB13.out.trans (H.out.2.2.mono HB13.out.size);have HBW:=Lib.hid hbw;have HBL:=Lib.hid (show go<wr.heap.size by have:=H.out.2.2.size;omega);have e2:2*(F.length:Int)-2=((2*F.length-2:Nat):Int):=by omega
    have hs13:=HB13.out.size;clear hlow hgrb hR hown hT hbw H;go_wp2_with fail
    try rw[e2]
    refine HT.out.mono ?_;rintro e7 w7 ⟨rfl,hown7,hfr7⟩;have hres:Own w7 w.heap.size (.slice (some ⟨go,0,none⟩) n n) bst:=by
     rw[HBE.out,if_neg hfew,HL.out];exact hown7.lower (by omega)
    have hbl:=hfr7.below (B:=w.heap.size) (by omega) HBL.out (by simp);have HX:Aside _:=And.intro hres (HBW.out.trans hbl);clear hres hbl hown7 hfr7 e2;go_wp2_with fail
    go_ret2
    exact⟨_,rfl,HX.out.1,HX.out.2⟩
end Ln
end Go.Proofs.YtjligbmickfbdaaGreat
