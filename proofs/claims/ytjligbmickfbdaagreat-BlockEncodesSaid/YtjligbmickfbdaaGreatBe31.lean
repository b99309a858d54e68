/- lens.merged. -/
import Derived.Test.YtjligbmickfbdaaGreatBe30
namespace Go.Proofs.YtjligbmickfbdaaGreat
namespace Ln
open Go.RowKit Go.Lib Go.Sort St
theorem fl2_drop (l:List (Int×Int)) (k:Nat):(fl2 l).drop (2*k)=fl2 (l.drop k):=by
 induction l generalizing k with
 |nil=>simp[fl2]
 |cons x r ih =>
  rcases k with _|k
  ·rfl
  ·have e:fl2 (x::r)=.int .i64 x.1:: .int .i64 x.2::fl2 r:=rfl
   rw[e,show 2*(k+1)=2*k+1+1 by omega,List.drop_succ_cons,List.drop_succ_cons,ih,List.drop_succ_cons]
def Sl2 (w:World) (B:Nat) (g k n:Nat) (l:List (Int×Int)):Prop:=Rd w B 2 (some ⟨g,k,none⟩) n (fl2 l)
theorem Sl2.len {w:World} {B g k n:Nat} {l:List (Int×Int)} (h:Sl2 w B g k n l):l.length=n:=by
 have:=Rd.len h;rw[length_fl2] at this;omega
theorem Sl2.head {w:World} {B g k n:Nat} {x:Int×Int} {l:List (Int×Int)} (h:Sl2 w B g k n (x::l)):w.cell? ⟨g,k,none⟩=some (.int .i64 x.1)/\w.cell? ⟨g,k+1,none⟩=some (.int .i64 x.2):=by
 have hl:=h.len;simp at hl
 obtain⟨ad,e,_,hc⟩:=Rd.cells h (by omega);cases e
 have h0:=hc 0 (.int .i64 x.1) rfl;have h1:=hc 1 (.int .i64 x.2) rfl;simp[Addr.add] at h0 h1
 exact⟨h0,h1⟩
theorem Sl2.tail {w:World} {B g k n:Nat} {x:Int×Int} {l:List (Int×Int)} (h:Sl2 w B g k (n+1) (x::l)):Sl2 w B g (k+2) n l:=by
 have hl:=h.len;simp at hl
 refine⟨by rw[length_fl2];omega,fun hn=>?_⟩;obtain⟨ad,e,hb,hc⟩:=Rd.cells h (by omega);cases e
 refine⟨_,rfl,hb,fun j u hu=>?_⟩;have:=hc (j+2) u (by simpa[fl2,cl2] using hu);rw[Addr.add_lit] at this ⊢
 rwa [show k+2+j=k+(j+2) by omega]
theorem Sl2.none {w:World} {B g k g' k':Nat} (_h:Sl2 w B g k 0 []):Sl2 w B g' k' 0 []:=⟨rfl,fun h=>absurd h (by omega)⟩
theorem make02 {ops:Array Oper} {rest:List Oper} {o:Oper} {a:Act} {Q:Exit->Act->World->Prop} {t ts:TypeId} {lo co:Operand} {kl kc:IntKind} {n:Nat} {w:World} {B:Nat} (hp:Pair2 t ts) (hn:n<=1000000) (hB:B<=w.heap.size)
  (h:∀w',Own2 w' B t (.slice (some ⟨w.heap.size,0,none⟩) 0 n) []->w.grownBy w' none->wpList Tryz.prog ops Q rest (a.put o.dst (.slice (some ⟨w.heap.size,0,none⟩) 0 n)) w')
  (hgd:o.guard=none:=by exact rfl) (ho:o.op=Op.makeSlice ts lo co:=by exact rfl) (hl:a.eval lo=.int kl 0:=by exact rfl) (hc:a.eval co=.int kc (n:Int):=by exact rfl) :
  wpList Tryz.prog ops Q (o::rest) a w:=by
 obtain⟨i0,hi,hz0,hz1,hz2⟩:=info_parts hp.info;refine wpList_make_own w hgd lo co ts ho B t i0 (.agg #[.int .i64 0,.int .i64 0]) 2 hp.sl hi hz0 hz1 kl kc n n hl hc rfl (by rw[hz2];omega) (by simp only[maxLen];omega) hB ?_;intro w' hown hg;exact h w' hown hg
theorem appendAll2 {ops:Array Oper} {rest:List Oper} {o:Oper} {a:Act} {Q:Exit->Act->World->Prop} {t ts:TypeId} {s x:Operand} {B g k n c:Nat} {v:Value} {l r:List (Int×Int)} {w:World} (hp:Pair2 t ts) (hown:Own2 w B t v l) (hr:Sl2 w w.heap.size g k n r) (hl:l.length<=1000000) (hn:n<=1000000) (hB:B<=w.heap.size)
  (h:∀v' w',Own2 w' B t v' (l++r)->Below B w w'->w.grownBy w' v.ownBlock->wpList Tryz.prog ops Q rest (a.put o.dst v') w')
  (hgd:o.guard=none:=by exact rfl) (ho:o.op=.call { callee:=.builtin .append,args:=#[s,x],argTypes:=#[ts,ts] }:=by exact rfl)
  (hs:a.eval s=v:=by exact rfl) (hx:a.eval x=.slice (some ⟨g,k,none⟩) n c:=by exact rfl) :
  wpList Tryz.prog ops Q (o::rest) a w:=by
 obtain⟨i0,hi,hz0,hz1,hz2⟩:=info_parts hp.info;refine wpList_append_rd w hgd s x ts ho B t i0 (.agg #[.int .i64 0,.int .i64 0]) 2 16 hp.sl hi hz0 hz1 hz2 rfl (by omega) v l.length (fl2 l) hs hown
  w.heap.size _ n c (fl2 r) hx hr ?_ (by simp only[maxLen];omega) (by omega) hB ?_
 ·intro u hu
  obtain⟨y,_,hy⟩:=List.mem_flatMap.1 hu;simp[cl2] at hy
  rcases hy with rfl|rfl<;>rfl
 intro v' w' hown' hg _;have hlt:=World.ownsRow.lt hown;refine h v' w' ?_ ((Below.refl _ _).grown hg hB (fun k hk=>(hlt k hk).1)) hg;unfold Own2;rw[List.length_append,fl2_append,hr.len];exact hown'
theorem Sl2.next {w:World} {B g k k2 n d:Nat} {x:Int×Int} {l:List (Int×Int)} (h:Sl2 w B g k (n+1) (x::l)) (hd:n+1<=d) (hk:(if d=1 then k else k+2)=k2):Sl2 w B g k2 n l:=by
 by_cases h1:d=1
 ·have hl:=h.len
  simp at hl
  have h0:n=0:=by omega
  have hl0:l=[]:=List.eq_nil_of_length_eq_zero (by omega);subst h0 hl0;exact⟨rfl,fun h=>absurd h (by omega)⟩
 ·rw[if_neg h1] at hk;subst hk
  exact h.tail
theorem cmp_ge (x y:Int) (h: ¬ y<x):Lib.compareInt x y<=0:=by unfold Lib.compareInt;split<;>(try split)<;>omega
theorem cmp_lt (x y:Int) (h:y<x): ¬ Lib.compareInt x y<=0:=by unfold Lib.compareInt;split<;>(try split)<;>omega
set_option maxHeartbeats 6400000 in
set_option maxRecDepth 100000 in
theorem merged_any (ga na ca gb nb cb:Nat) (la lb:List Thing) (w:World) (hna:na<=100000) (hnb:nb<=100000) (hca:na<=ca) (hcb:nb<=cb) (ha:Sl2 w w.heap.size ga 0 na la) (hb:Sl2 w w.heap.size gb 0 nb lb) :
  Calls Tryz.prog 125 #[.slice (some ⟨ga,0,none⟩) na ca,.slice (some ⟨gb,0,none⟩) nb cb] w fun e w'=>∃v,e=.returned v/\Own2 w' w.heap.size 180 v (mrg wt la lb)/\RowKit.Below w.heap.size w w':=by
 have mixed:Tryz.prog.follows .mixedOrders=true:=by kernel_rfl
 have HA:=Lib.hid ha;have HB:=Lib.hid hb;have hadd:IntKind.i64.wrap ((na:Int)+(nb:Int))=((na+nb:Nat):Int):=by rw[IntKind.wrap_i64];omega
 clear ha hb
 go_enter Tryz.func125, Tryz.ntmps125
 go_wp2_with (at_make;(refine make02 (n:=na+nb) thingPair (by omega) (Nat.le_refl w.heap.size) ?_);intro w1 hown1 hg1)
 have hb1:RowKit.Below w.heap.size w w1:=(Below.refl _ _).grown hg1 (Nat.le_refl _) (by simp);have H0:Aside (Own2 w1 w.heap.size 180 (.slice (some ⟨w.heap.size,0,none⟩) 0 (na+nb)) []/\RowKit.Below w.heap.size w w1):=⟨hown1,hb1⟩
 clear hown1 hb1 hg1 hadd;go_wp2_with fail
 go_loopg [0,1,5] (na+nb) (fun kx s0 s1 s5 wr=>∃(pa pb qa qb da db:Nat) (ra rb acc:List Thing),s0=.slice (some ⟨ga,pa,none⟩) qa da/\s1=.slice (some ⟨gb,pb,none⟩) qb db/\qa<=da/\qb<=db/\qa+qb<=kx/\qa<=na/\qb<=nb /\
  Aside (Sl2 w w.heap.size ga pa qa ra/\Sl2 w w.heap.size gb pb qb rb/\acc++mrg wt ra rb=mrg wt la lb)/\Aside (Own2 wr w.heap.size 180 s5 acc/\RowKit.Below w.heap.size w wr))
 case atStart=>exact⟨0,0,na,nb,ca,cb,la,lb,[],rfl,rfl,hca,hcb,by omega,by omega,by omega,⟨HA.out,HB.out,rfl⟩,H0.out⟩
 case round =>
  clear H0;obtain⟨pa,pb,qa,qb,da,db,ra,rb,acc,rfl,rfl,hda,hdb,hkx,hqa,hqb,HS,H⟩:=hrel;by_cases h1:0<qa
  ·by_cases h2:0<qb
   ·obtain⟨x,ra,rfl⟩:∃x r,ra=x::r:=by
     have:=HS.out.1.len;rcases ra with _|⟨x,r⟩
     ·simp at this;omega
     ·exact⟨_,_,rfl⟩
    obtain⟨y,rb,rfl⟩:∃x r,rb=x::r:=by
     have:=HS.out.2.1.len;rcases rb with _|⟨x,r⟩
     ·simp at this;omega
     ·exact⟨_,_,rfl⟩
    obtain⟨qa,rfl⟩:∃q,qa=q+1:=⟨qa-1,by omega⟩
    obtain⟨qb,rfl⟩:∃q,qb=q+1:=⟨qb-1,by omega⟩
    have hcx:∀wx,RowKit.Below w.heap.size w wx->wx.cell? ⟨ga,pa,none⟩=some (.int .i64 x.1)/\wx.cell? ⟨ga,pa+1,none⟩=some (.int .i64 x.2):=fun wx hb=>Sl2.head (Rd.below HS.out.1 hb)
    have hcy:∀wx,RowKit.Below w.heap.size w wx->wx.cell? ⟨gb,pb,none⟩=some (.int .i64 y.1)/\wx.cell? ⟨gb,pb+1,none⟩=some (.int .i64 y.2):=fun wx hb=>Sl2.head (Rd.below HS.out.2.1 hb)
    have HX:=Lib.hid hcx;have HY:=Lib.hid hcy;have hSd:(wr.drew.cell? ⟨ga,pa,none⟩=some (.int .i64 x.1)/\wr.drew.cell? ⟨ga,pa+1,none⟩=some (.int .i64 x.2))/\(wr.drew.cell? ⟨gb,pb,none⟩=some (.int .i64 y.1)/\wr.drew.cell? ⟨gb,pb+1,none⟩=some (.int .i64 y.2))/\RowKit.Below wr.heap.size wr wr.drew:=⟨hcx _ H.out.2.drew,hcy _ H.out.2.drew,ext_drew wr⟩
    have HSd:=Lib.hid hSd;have hC:∀wx,((wx.cell? ⟨ga,pa,none⟩=some (.int .i64 x.1)/\wx.cell? ⟨ga,pa+1,none⟩=some (.int .i64 x.2))/\(wx.cell? ⟨gb,pb,none⟩=some (.int .i64 y.1)/\wx.cell? ⟨gb,pb+1,none⟩=some (.int .i64 y.2))/\RowKit.Below wr.heap.size wr wx) ->
      Calls Tryz.prog 148 #[.agg #[.int .i64 x.1,.int .i64 x.2],.agg #[.int .i64 y.1,.int .i64 y.2]] wx fun e w'=>e=.returned (.int .i64 (Lib.compareInt x.1 y.1)) /\
       ((w'.cell? ⟨ga,pa,none⟩=some (.int .i64 x.1)/\w'.cell? ⟨ga,pa+1,none⟩=some (.int .i64 x.2))/\(w'.cell? ⟨gb,pb,none⟩=some (.int .i64 y.1)/\w'.cell? ⟨gb,pb+1,none⟩=some (.int .i64 y.2))/\RowKit.Below wr.heap.size wr w'):=by
     intro wx ⟨_,_,hb⟩;refine(against_any x y wx).mono ?_;rintro e w' ⟨rfl,q,os',rfl⟩;have hb2:RowKit.Below wx.heap.size wx (grow (wx.drewN q) os'):=⟨rfl,rfl,rfl,by simp[grow],fun g hg=>by
      rw[heap_grow_old _ _ (by simpa using hg)];rfl⟩
     have hb3:=hb.trans (hb2.mono hb.size);exact⟨rfl,hcx _ (H.out.2.trans (hb3.mono H.out.2.size)),hcy _ (H.out.2.trans (hb3.mono H.out.2.size)),hb3⟩
    have HC:=Lib.hid hC;clear hcx hcy hSd hC h1 h2;obtain⟨z,hz⟩:∃z,z=Lib.compareInt x.1 y.1:=⟨_,rfl⟩
    have HZ:=Lib.hid hz;rw[<-hz] at HC;go_wp2_with fail
    go_region_held3 (fun wx=>(wx.cell? ⟨ga,pa,none⟩=some (.int .i64 x.1)/\wx.cell? ⟨ga,pa+1,none⟩=some (.int .i64 x.2))/\(wx.cell? ⟨gb,pb,none⟩=some (.int .i64 y.1)/\wx.cell? ⟨gb,pb+1,none⟩=some (.int .i64 y.2))/\RowKit.Below wr.heap.size wr wx) (first|exact HSd.out|assumption) (first|(go_at_call 148;refine(HC.out _ (by first|exact HSd.out|assumption)).mono ?_;rintro e1 w1 ⟨rfl,hS1⟩))
    have ho1:Own2 w1 w.heap.size 180 _ acc:=own_below H.out.1 hS1.2.2 (Nat.le_refl _);have HN0:=And.intro ho1 (H.out.2.trans (hS1.2.2.mono H.out.2.size));have HN:Aside _:=HN0;have hc1:=hS1.1.1;have hc2:=hS1.1.2;have hc3:=hS1.2.1.1;have hc4:=hS1.2.1.2;have hll:=congrArg List.length HS.out.2.2;rw[List.length_append,length_mrg,length_mrg] at hll;have hla:=(HA.out).len;have hlb:=(HB.out).len;have hal:acc.length<=1099511627776:=by omega
    have HAL:=Lib.hid hal;clear ho1 HN0 hS1 HSd HC hll hla hlb H HZ hal;by_cases hlt:y.1<x.1
    ·have hd:decide (Lib.compareInt x.1 y.1<=0)=false:=decide_eq_false (cmp_lt _ _ hlt)
     rw[hd];clear hd;obtain⟨pb2,hpb⟩:∃p,(if db=1 then pb else pb+2)=p:=⟨_,rfl⟩
     have hA:(if db=1 then(some ⟨gb,pb,none⟩:Option Addr) else some ⟨gb,pb+2,none⟩)=some ⟨gb,pb2,none⟩:=by rw[<-hpb];split<;>rfl
     have HPB:=Lib.hid hpb;clear hpb;have p1:(1:Int)<=(qb:Int)+1:=by omega
     go_wp2_with fail
     go_region_law (refine step_append2 (.tmp 36) (.tmp 40) y.1 y.2 thingPair rfl rfl HN.out.1 HAL.out HN.out.2.size (by simp[Act.eval]) (by simp[Act.eval]) ?_;intro g5 cap w5 hown5 hb5)
     all_goals
      have HN3:=And.intro hown5 (HN.out.2.trans hb5);have HN2:Aside _:=HN3;clear HN3 hown5 hb5 HN hA p1 hc1 hc2 hc3 hc4 HAL HX HY;go_wp2_with fail
      go_roundg (qa+1+qb)
      case measure=>omega
      case rel =>
       refine⟨pa,pb2,qa+1,qb,da,db-1,x::ra,rb,_,rfl,rfl,by omega,by omega,by omega,by omega,by omega,⟨HS.out.1,HS.out.2.1.next hdb HPB.out,?_⟩,HN2.out⟩;have:=HS.out.2.2;rw[mrg_lt wt (show wt y<wt x from hlt)] at this;rw[<-this,List.append_assoc];rfl
    ·have hd:decide (Lib.compareInt x.1 y.1<=0)=true:=decide_eq_true (cmp_ge _ _ hlt)
     rw[hd];clear hd;obtain⟨pa2,hpa⟩:∃p,(if da=1 then pa else pa+2)=p:=⟨_,rfl⟩
     have hA:(if da=1 then(some ⟨ga,pa,none⟩:Option Addr) else some ⟨ga,pa+2,none⟩)=some ⟨ga,pa2,none⟩:=by rw[<-hpa];split<;>rfl
     have HPA:=Lib.hid hpa;clear hpa;have p1:(1:Int)<=(qa:Int)+1:=by omega
     go_wp2_with fail
     go_region_law (refine step_append2 (.tmp 28) (.tmp 32) x.1 x.2 thingPair rfl rfl HN.out.1 HAL.out HN.out.2.size (by simp[Act.eval]) (by simp[Act.eval]) ?_;intro g5 cap w5 hown5 hb5)
     all_goals
      have HN3:=And.intro hown5 (HN.out.2.trans hb5);have HN2:Aside _:=HN3;clear HN3 hown5 hb5 HN hA p1 hc1 hc2 hc3 hc4 HAL HX HY;go_wp2_with fail
      go_roundg (qa+(qb+1))
      case measure=>omega
      case rel =>
       refine⟨pa2,pb,qa,qb+1,da-1,db,ra,y::rb,_,rfl,rfl,by omega,by omega,by omega,by omega,by omega,⟨HS.out.1.next hda HPA.out,HS.out.2.1,?_⟩,HN2.out⟩;have:=HS.out.2.2;rw[mrg_ge wt (show ¬ wt y<wt x by unfold wt;omega)] at this;rw[<-this,List.append_assoc];rfl
   ·have hrb:rb=[]:=List.eq_nil_of_length_eq_zero (by rw[HS.out.2.1.len];omega)
    have hfi2:acc++ra++rb=mrg wt la lb:=by
     have hfi:=HS.out.2.2;rw[hrb,mrg_nil_right] at hfi;rw[hrb,List.append_nil];exact hfi
    have HFI:=Lib.hid hfi2;clear hfi2 hrb;have hll:=congrArg List.length HFI.out;rw[length_mrg,List.length_append,List.length_append,HS.out.1.len,HS.out.2.1.len,(HA.out).len,(HB.out).len] at hll;have ha1:Sl2 wr wr.heap.size ga pa qa ra:=(Rd.below HS.out.1 H.out.2).more H.out.2.size;have HA1:=Lib.hid ha1;have hal:acc.length<=1000000:=by omega
    have HAL:=Lib.hid hal;have ha2:∀w1,RowKit.Below w.heap.size wr w1->Sl2 w1 w1.heap.size gb pb qb rb:=fun w1 hb=>(Rd.below HS.out.2.1 (H.out.2.trans hb)).more (H.out.2.trans hb).size
    have HA2:=Lib.hid ha2;have hal2:(acc++ra).length<=1000000:=by rw[List.length_append,HS.out.1.len];omega
    have HAL2:=Lib.hid hal2;clear ha1 hll hal ha2 hal2;have tok1:True:=trivial;go_wp2_with (first|(at_builtin;have _t:=tok1;refine appendAll2 thingPair H.out.1 HA1.out HAL.out (by omega) H.out.2.size ?_;intro v1 w1 hown1 hb1 hg1;clear tok1)|(at_builtin;refine appendAll2 thingPair hown1 (HA2.out _ hb1) HAL2.out (by omega) (Nat.le_trans H.out.2.size hb1.size) ?_;intro v2 w2 hown2 hb2 hg2))
    go_ret
    have hown3:Own2 w2 w.heap.size 180 v2 (mrg wt la lb):=by rw[<-HFI.out];exact hown2
    exact⟨_,rfl,hown3,(H.out.2.trans hb1).trans hb2⟩
  ·have hra:ra=[]:=List.eq_nil_of_length_eq_zero (by rw[HS.out.1.len];omega)
   have hfi2:acc++ra++rb=mrg wt la lb:=by
    have hfi:=HS.out.2.2;rw[hra,mrg_nil_left] at hfi;rw[hra,List.append_nil];exact hfi
   have HFI:=Lib.hid hfi2;clear hfi2 hra;have hll:=congrArg List.length HFI.out;rw[length_mrg,List.length_append,List.length_append,HS.out.1.len,HS.out.2.1.len,(HA.out).len,(HB.out).len] at hll;have ha1:Sl2 wr wr.heap.size ga pa qa ra:=(Rd.below HS.out.1 H.out.2).more H.out.2.size;have HA1:=Lib.hid ha1;have hal:acc.length<=1000000:=by omega
   have HAL:=Lib.hid hal;have ha2:∀w1,RowKit.Below w.heap.size wr w1->Sl2 w1 w1.heap.size gb pb qb rb:=fun w1 hb=>(Rd.below HS.out.2.1 (H.out.2.trans hb)).more (H.out.2.trans hb).size
   have HA2:=Lib.hid ha2;have hal2:(acc++ra).length<=1000000:=by rw[List.length_append,HS.out.1.len];omega
   have HAL2:=Lib.hid hal2;clear ha1 hll hal ha2 hal2;have tok1:True:=trivial;go_wp2_with (first|(at_builtin;have _t:=tok1;refine appendAll2 thingPair H.out.1 HA1.out HAL.out (by omega) H.out.2.size ?_;intro v1 w1 hown1 hb1 hg1;clear tok1)|(at_builtin;refine appendAll2 thingPair hown1 (HA2.out _ hb1) HAL2.out (by omega) (Nat.le_trans H.out.2.size hb1.size) ?_;intro v2 w2 hown2 hb2 hg2))
   go_ret
   have hown3:Own2 w2 w.heap.size 180 v2 (mrg wt la lb):=by rw[<-HFI.out];exact hown2
   exact⟨_,rfl,hown3,(H.out.2.trans hb1).trans hb2⟩
end Ln
end Go.Proofs.YtjligbmickfbdaaGreat
