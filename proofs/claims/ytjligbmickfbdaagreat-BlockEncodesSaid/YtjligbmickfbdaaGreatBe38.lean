/- canon.New. -/
import Derived.Test.YtjligbmickfbdaaGreatBe37
namespace Go.Proofs.YtjligbmickfbdaaGreat
namespace Cn
open Go.RowKit
open Bt (Frm)
theorem fieldPair:Pair2 141 129:=⟨Tryz.underlying129,by kernel_rfl⟩
theorem fl2_zero (n:Nat):fl2 (List.replicate n (0,0))=List.replicate (n*2) (.int .i64 0):=by
 induction n with
 |zero=>rfl
 |succ n ih =>
  have e:fl2 (List.replicate (n+1) (0,0))=.int .i64 0:: .int .i64 0::fl2 (List.replicate n (0,0)):=rfl;rw[e,ih,show(n+1)*2=n*2+1+1 by omega,List.replicate_succ,List.replicate_succ]
theorem made_zero (n:Nat):(madeCells (Value.agg #[.int .i64 0,.int .i64 0]).cells n).toList=List.replicate n (.int .i64 0):=by
 apply List.ext_getElem?
 intro i;by_cases hi:i<n
 ·have h2:i%2=0∨i%2=1:=by omega
  rw[List.getElem?_replicate,if_pos hi];rcases h2 with h2|h2<;>simp[madeCells,Value.cells,hi,h2]
 ·rw[List.getElem?_eq_none (by simp[madeCells];omega),List.getElem?_eq_none (by simp;omega)]
theorem make12 {ops:Array Oper} {rest:List Oper} {o:Oper} {a:Act} {Q:Exit->Act->World->Prop} {t ts:TypeId} {lo co:Operand} {kl kc:IntKind} {n:Nat} {w:World} (hp:Pair2 t ts) (hn:n<=1000000)
  (h:∀w',w'.heap[w.heap.size]? =some (.cells (fl2 (List.replicate n (0,0))).toArray t (0,0))->w.grownBy w' none->wpList Tryz.prog ops Q rest (a.put o.dst (.slice (some ⟨w.heap.size,0,none⟩) n n)) w')
  (hgd:o.guard=none:=by exact rfl) (ho:o.op=Op.makeSlice ts lo co:=by exact rfl) (hl:a.eval lo=.int kl (n:Int):=by exact rfl) (hc:a.eval co=.int kc (n:Int):=by exact rfl) :
  wpList Tryz.prog ops Q (o::rest) a w:=by
 obtain⟨i0,hi,hz0,hz1,hz2⟩:=info_parts hp.info;refine wpList_make_full w hgd lo co ts ho w.heap.size t i0 (.agg #[.int .i64 0,.int .i64 0]) 2 hp.sl hi hz0 hz1 kl kc n n n hl hc rfl rfl (by rw[hz2];omega) (by simp only[maxLen];omega) (Nat.le_refl _) ?_;intro w' hown hg;refine h w' ?_ hg;rcases hown.2 with ⟨hv,h0⟩|⟨g',cap,cur,hv,hg',hh,hnc,hm,hsz,htk⟩
 ·cases hv
 ·simp only[Value.slice.injEq,Option.some.injEq,Addr.mk.injEq,and_true,true_and] at hv
  obtain⟨rfl,rfl⟩:=hv;rw[hh];have e1:cur.toList=fl2 (List.replicate n (0,0)):=by
   rw[List.take_of_length_le (by rw[Array.length_toList,hsz];exact Nat.le_refl _)] at htk;rw[htk,made_zero,fl2_zero]
  rw[<-e1]
theorem new_lit (u:Value): #[u,.slice none 0 0,.int .i64 0,.int .i64 0,.int .i64 0,.int .i64 0,.int .i64 0,.int .i64 0,.int .i64 0,.int .i64 0,.int .i64 0,.int .i64 0,.int .i64 0,.int .i64 0,.int .i64 0,.int .i64 0,.int .i64 0,.int .i64 0,.int .i64 0,.int .i64 0,.int .i64 0,.int .i64 0,.int .i64 0,.int .i64 0,.int .i64 0,.int .i64 0,.int .i64 0,.int .i64 0,.int .i64 0,.int .i64 0,.int .i64 0,.int .i64 0,.int .i64 0,.int .i64 0,.int .i64 0,.int .i64 0,.int .i64 0,.int .i64 0,.int .i64 0,.int .i64 0,.int .i64 0,.int .i64 0,.int .i64 0,.int .i64 0,.int .i64 0,.int .i64 0,.int .i64 0,.int .i64 0,.int .i64 0,.int .i64 0,.bool true]=(rowC u (.slice none 0 0) (l16 fun _=>0) (l16 fun _=>0) (l16 fun _=>0) true).toArray:=rfl
set_option maxHeartbeats 6400000 in
set_option maxRecDepth 100000 in
theorem new_any (A:Option Addr) (n c:Nat) (l:List Int) (w:World) (hn:n<=257) (hck:checkE l=0) (hok:Ok l) (hrd:Rd w w.heap.size 1 A n (l.map (Value.int .i64))) :
  Calls Tryz.prog 44 #[.slice A n c] w fun e w'=>∃b,e=.returned (.tuple #[.pointer (some ⟨b,0,none⟩),.int .i64 0])/\Cd w' b l/\w.heap.size<=b/\Below w.heap.size w w'/\(∀w2,w'.heap.size<=w2.heap.size->(∀k,w.heap.size<=k->k<w'.heap.size->w2.heap[k]? =w'.heap[k]?)->Cd w2 b l):=by
 have mixed:Tryz.prog.follows .mixedOrders=true:=by kernel_rfl
 have hcon:=check_any A n c l w (by omega) hrd;rw[hck] at hcon;have HC:=Lib.hid hcon;have hln:l.length=n:=by simpa using hrd.len
 have HR:=Lib.hid hrd;have HOK:=Lib.hid hok;have HLN:=Lib.hid hln;clear hcon hck hrd hok hln
 go_enter Tryz.func44, Tryz.ntmps44
 go_wp2_with fail
 refine HC.out.mono ?_;rintro e1 w1 ⟨rfl,rfl⟩;clear HC;go_wp2_with (at_make;(refine make12 (n:=n) fieldPair (by omega) ?_);intro w2 hrow2 hg2)
 rw[new_lit];have hb2:Below w.heap.size w w2:=(Below.refl _ _).grown hg2 (Nat.le_refl _) (by simp);have hb3:Below w2.heap.size w2 (w2.alloc (.cells (rowC (.slice (some ⟨w.heap.size,0,none⟩) n n) (.slice none 0 0) (l16 fun _=>0) (l16 fun _=>0) (l16 fun _=>0) true).toArray 132)):=(Below.refl _ _).alloc (Nat.le_refl _) _;have hcx:Cx (w2.alloc (.cells (rowC (.slice (some ⟨w.heap.size,0,none⟩) n n) (.slice none 0 0) (l16 fun _=>0) (l16 fun _=>0) (l16 fun _=>0) true).toArray 132)) w2.heap.size (.slice (some ⟨w.heap.size,0,none⟩) n n) (.slice none 0 0) (l16 (cn (l.take 0))) (l16 fun _=>0) (l16 fun _=>0) true:=by
  refine⟨?_,length_l16 _,length_l16 _,length_l16 _⟩;rw[heap_alloc_new];have e:l16 (cn (l.take 0))=l16 fun _=>0:=l16_congr fun k _=>by unfold cn;split<;>simp
  rw[e]
 have H0:Aside _:=And.intro hcx hb3;have HROW:=Lib.hid hrow2;have HB2:=Lib.hid hb2;have hs2:=hb2.size;have hwlt:w.heap.size<w2.heap.size:=(Array.getElem?_eq_some_iff.1 hrow2).1;clear hb2 hb3 hcx hrow2 hg2;generalize w2.alloc (.cells (rowC (.slice (some ⟨w.heap.size,0,none⟩) n n) (.slice none 0 0) (l16 fun _=>0) (l16 fun _=>0) (l16 fun _=>0) true).toArray 132)=w3 at *
 obtain⟨b,hbe⟩:∃b,b=w2.heap.size:=⟨_,rfl⟩
 obtain⟨gw0,hge⟩:∃gw0,gw0=w.heap.size:=⟨_,rfl⟩
 rw[<-hbe,<-hge] at H0 ⊢;have HBE:=Lib.hid hbe;have HGE:=Lib.hid hge;clear hbe hge;go_loopg [21] n (fun kx s21 wr=>∃(k:Nat),s21=.int .i64 (k:Int)/\k<=n/\n-k<=kx/\Aside (Cx wr b (.slice (some ⟨gw0,0,none⟩) n n) (.slice none 0 0) (l16 (cn (l.take k))) (l16 fun _=>0) (l16 fun _=>0) true/\Below b w2 wr))
 case atStart=>exact⟨0,rfl,by omega,by omega,H0.out⟩
 case round =>
  clear H0;obtain⟨k,rfl,hk,hkx,H⟩:=hrel;by_cases hlt:k<n
  ·have hbw:Below w.heap.size w wr:=HB2.out.trans (H.out.2.mono (by have:=HBE.out;omega))
   obtain⟨ad,x,rfl,had,hx,hcell⟩:=(HR.out.below hbw).int1 hlt;have hkl:k<l.length:=by have:=HLN.out;omega
   have hkx2:l[k]=x:=by rw[List.getElem?_eq_getElem hkl] at hx;exact Option.some.inj hx
   have hr:=HOK.out.rng l[k] (List.getElem_mem hkl);rw[hkx2] at hr;have HLT:=Lib.hid hlt;by_cases h0:x=0
   ·have e1:l16 (cn (l.take (k+1)))=l16 (cn (l.take k)):=l16_congr fun j _=>by
     rw[cn_take_succ l k j hkl,if_neg (by rintro ⟨h1,h2⟩;rw[hkx2] at h2;omega)];rfl
    have HX:Aside (Cx wr b (.slice (some ⟨gw0,0,none⟩) n n) (.slice none 0 0) (l16 (cn (l.take (k+1)))) (l16 fun _=>0) (l16 fun _=>0) true/\Below b w2 wr):=by rw[e1];exact H.out
    subst h0;clear e1 hx hkx2 hkl had hbw;go_wp2_with fail
    go_roundg (n-(k+1))
    case measure=>omega
    case rel=>exact⟨k+1,by go_num,HLT.out,by have:=HLT.out;omega,HX.out⟩
   ·obtain⟨y,rfl⟩:∃y:Nat,x=(y:Int):=⟨x.toNat,by omega⟩
    have hy15:y<=15:=by omega
    have hc:=H.out.1.cc y hy15;rw[l16_at _ _ hy15] at hc;have hf:=H.out.1.fz (2+y);have hcl:cn (l.take k) y<=257:=by
     unfold cn;split
     ·omega
     ·exact Nat.le_trans (List.countP_le_length) (by rw[List.length_take];omega)
    have hset:=H.out.1.set_c y hy15 ((cn (l.take k) y+1:Nat):Int);rw[l16_set] at hset;have e1:(l16 fun j=>if j=y then cn (l.take k) y+1 else cn (l.take k) j)=l16 (cn (l.take (k+1))):=l16_congr fun j _=>by
     rw[cn_take_succ l k j hkl];by_cases he:j=y
     ·subst he;rw[if_pos rfl,if_pos ⟨by omega,hkx2⟩]
     ·rw[if_neg he,if_neg (by rintro ⟨_,h2⟩;rw[hkx2] at h2;omega)];rfl
    rw[e1] at hset;have hb4:=H.out.2.setCell (p:=⟨b,2+y,none⟩) (Nat.le_refl b) (.int .i64 ((cn (l.take k) y+1:Nat):Int));have HX:Aside _:=And.intro hset.drew hb4.drew;generalize cn (l.take k) y=v0 at *
    have hyp:(0:Int)<(y:Int):=by omega
    have hy16:(y:Int)<16:=by omega
    have hyt:((y:Int)).toNat=y:=by omega
    have i1:IntKind.i64.wrap ((v0:Int)+1)=(v0:Int)+1:=by rw[IntKind.wrap_i64];omega
    clear e1 hx hkx2 hkl had hbw hset hb4 hr h0 H;go_wp2_with fail
    go_region
    go_wp2_with fail
    go_roundg (n-(k+1))
    case measure=>omega
    case rel=>exact⟨k+1,by go_num,HLT.out,by have:=HLT.out;omega,HX.out⟩
  ·have e1:l.take k=l:=List.take_of_length_le (by have:=HLN.out;omega)
   have h9:=H.out;rw[e1] at h9;have h1:Cx wr b (.slice (some ⟨gw0,0,none⟩) n n) (.slice none 0 0) (l16 (cn l)) (l16 fun j=>if j<1 then fs l j else 0) (l16 fun j=>if j<1 then pl l j else 0) true:=by
    have ea:(l16 fun j=>if j<1 then fs l j else 0)=l16 fun _=>0:=l16_congr fun j _=>by
     split
     ·rename_i h;obtain rfl:j=0:=by omega
      rfl
     ·rfl
    have eb:(l16 fun j=>if j<1 then pl l j else 0)=l16 fun _=>0:=l16_congr fun j _=>by
     split
     ·rename_i h;obtain rfl:j=0:=by omega
      rfl
     ·rfl
    rw[ea,eb];exact h9.1
   have H1:Aside _:=And.intro h1 h9.2;clear h9 h1 e1 H;go_wp2_with fail
   go_loopg [8] 16 (fun kx s8 wx=>∃(M:Nat),s8=.int .i64 (M:Int)/\1<=M/\M<=16/\16-M<=kx /\
    Aside (Cx wx b (.slice (some ⟨gw0,0,none⟩) n n) (.slice none 0 0) (l16 (cn l)) (l16 fun j=>if j<M then fs l j else 0) (l16 fun j=>if j<M then pl l j else 0) true/\Below b w2 wx))
   case atStart=>exact⟨1,rfl,by omega,by omega,by omega,H1.out⟩
   case round =>
    clear H1;obtain⟨M,rfl,hM1,hM,hMx,H⟩:=hrel;by_cases hlt2:M<=15
    ·obtain⟨q,hq⟩:∃q,M=q+1:=⟨M-1,by omega⟩
     have hq15:q<=15:=by omega
     have hfit:=fits l HOK.out q hq15;have hp15:2^q<=32768:=Nat.pow_le_pow_right (by omega) hq15;have hplb:=(pl_le l HOK.out.rng q).1;rw[pl_step] at hplb;have husb:us l<=257:=by unfold us;exact Nat.le_trans (List.countP_le_length) (by have:=HLN.out;omega)
     have c1:=H.out.1.cf q hq15;rw[l16_at _ _ hq15,if_pos (by omega)] at c1;have c2:=H.out.1.cc q hq15;rw[l16_at _ _ hq15] at c2;have c3:=H.out.1.cf M hlt2;rw[l16_at _ _ hlt2,if_neg (by omega)] at c3;have f3:=H.out.1.fz (18+M);have hs1:=H.out.1.set_f M hlt2 (((fs l q+cn l q)*2:Nat):Int);rw[l16_set] at hs1;have e1:(l16 fun j=>if j=M then(fs l q+cn l q)*2 else if j<M then fs l j else 0)=l16 fun j=>if j<M+1 then fs l j else 0:=l16_congr fun j _=>by
      by_cases he:j=M
      ·subst he;rw[if_pos rfl,if_pos (by omega),hq];rfl
      ·rw[if_neg he]
       by_cases h2:j<M
       ·rw[if_pos h2,if_pos (by omega)]
       ·rw[if_neg h2,if_neg (by omega)]
     rw[e1] at hs1;have hb5:=H.out.2.setCell (p:=⟨b,18+M,none⟩) (Nat.le_refl b) (.int .i64 (((fs l q+cn l q)*2:Nat):Int));have H5:Aside _:=And.intro hs1.drew hb5.drew;have q1:(M:Int)-1=(q:Int):=by omega
     have e2:(l16 fun j=>if j=M then pl l q+cn l q else if j<M then pl l j else 0)=l16 fun j=>if j<M+1 then pl l j else 0:=l16_congr fun j _=>by
      by_cases he:j=M
      ·subst he;rw[if_pos rfl,if_pos (by omega),hq];rfl
      ·rw[if_neg he]
       by_cases h2:j<M
       ·rw[if_pos h2,if_pos (by omega)]
       ·rw[if_neg h2,if_neg (by omega)]
     have E2:=Lib.hid e2;obtain⟨F,hF⟩:∃F,F=fs l q:=⟨_,rfl⟩
     obtain⟨C,hC⟩:∃C,C=cn l q:=⟨_,rfl⟩
     obtain⟨P0,hP⟩:∃P0,P0=pl l q:=⟨_,rfl⟩
     have HC:=Lib.hid hC;have HP:=Lib.hid hP;rw[<-hF] at c1 hfit H5;rw[<-hC] at c2 hfit hplb H5;rw[<-hP] at hplb;have i1:IntKind.i64.wrap ((F:Int)+(C:Int))=(F:Int)+(C:Int):=by rw[IntKind.wrap_i64];omega
     have hm16:(M:Int)<16:=by omega
     have hq16:(q:Int)<16:=by omega
     have hmp:(0:Int)<=(M:Int):=by omega
     rw[show(((F+C)*2:Nat):Int)=((F:Int)+(C:Int))*2 by simp] at H5;have HM:=Lib.hid hq;clear e1 e2 hs1 hb5 hF hC hP hq;go_wp2_with fail
     go_region
     generalize (wr.setCell ⟨b,18+M,none⟩ (.int .i64 (((F:Int)+(C:Int))*2))).drew=w5 at *
     have c1:=H5.out.1.cp q hq15;rw[l16_at _ _ hq15,if_pos (by have:=HM.out;omega),<-HP.out] at c1;have c2:=H5.out.1.cc q hq15;rw[l16_at _ _ hq15,<-HC.out] at c2;have c3:=H5.out.1.cp M hlt2;rw[l16_at _ _ hlt2,if_neg (by omega)] at c3;have f3:=H5.out.1.fz (34+M);have hs1:=H5.out.1.set_p M hlt2 ((P0+C:Nat):Int);rw[l16_set] at hs1;have e2:=E2.out;rw[<-HP.out,<-HC.out] at e2;rw[e2] at hs1;have hb5:=H5.out.2.setCell (p:=⟨b,34+M,none⟩) (Nat.le_refl b) (.int .i64 ((P0+C:Nat):Int));have H6:Aside _:=And.intro hs1.drew hb5.drew;have i2:IntKind.i64.wrap ((P0:Int)+(C:Int))=(P0:Int)+(C:Int):=by rw[IntKind.wrap_i64];omega
     rw[show((P0+C:Nat):Int)=(P0:Int)+(C:Int) by simp] at H6;clear e2 hs1 hb5 i1 H5 H hfit;go_wp2_with fail
     go_region
     go_wp2_with fail
     go_roundg (16-(M+1))
     case measure=>omega
     case rel=>exact⟨M+1,by go_num,by omega,by omega,by omega,H6.out⟩
    ·obtain rfl:M=16:=by omega
     have e1:(l16 fun j=>if j<16 then fs l j else 0)=l16 (fs l):=l16_congr fun j hj=>if_pos (by omega)
     have e2:(l16 fun j=>if j<16 then pl l j else 0)=l16 (pl l):=l16_congr fun j hj=>if_pos (by omega)
     have h9:=H.out;rw[e1,e2] at h9;have hrow:wr.heap[gw0]? =some (.cells (fl2 (wdsK l 0)).toArray 141 (0,0)):=by
      rw[h9.2.block gw0 (by have:=HBE.out;have:=HGE.out;omega),HGE.out,HROW.out];have e3:wdsK l 0=List.replicate n (0,0):=by
       unfold wdsK;simp only[Nat.not_lt_zero,false_and,if_false,List.map_const',List.length_range,HLN.out]
      rw[e3]
     have hbw:Below w.heap.size w wr:=HB2.out.trans (h9.2.mono (by have:=HBE.out;omega));have hnum:=number_any wr b 0 gw0 n n c A l (.slice none 0 0) HOK.out (by have:=HLN.out;omega) HLN.out ((HR.out.below hbw).more hbw.size) h9.1 hrow (by have:=HBE.out;have:=HGE.out;omega) (fun h0 ad e=>by
      obtain⟨ad',e',hlt',_⟩:=HR.out.cells h0;rw[e] at e';cases e'
      have:=HBE.out;have:=HGE.out;exact⟨by omega,by omega⟩)
     have HNU:=Lib.hid hnum;have HBW:=Lib.hid hbw;have hblt:=h9.1.lt;clear e1 e2 h9 hrow hbw hnum H;go_wp2_with fail
     refine HNU.out.mono ?_;rintro e7 w7 ⟨rfl,hcd,hfr,hcl⟩;have hbl:=hfr.below (B:=w.heap.size) (by have:=HBE.out;omega) hblt (by
      intro k hk;have:=Option.some.inj hk;have:=HGE.out;omega)
     have hws:=hfr.size;have hgl:gw0<wr.heap.size:=by have:=HBE.out;have:=HGE.out;omega
     have hcl2:∀w2,w7.heap.size<=w2.heap.size->(∀k,w.heap.size<=k->k<w7.heap.size->w2.heap[k]? =w7.heap[k]?)->Cd w2 b l:=fun w2 hsz hk =>
      hcl w2 hsz (hk b (by have:=HBE.out;omega) (by omega)) (hk gw0 (by have:=HGE.out;omega) (by omega)) (fun k h1 h2=>hk k (by have:=HBW.out.size;omega) h2)
     have HX:Aside _:=And.intro hcd (And.intro (HBW.out.trans hbl) hcl2);clear hcd hfr hbl HNU hcl hcl2;go_wp2_with fail
     go_ret2
     exact⟨b,rfl,HX.out.1,by have:=HBE.out;omega,HX.out.2.1,HX.out.2.2⟩
end Cn
end Go.Proofs.YtjligbmickfbdaaGreat
