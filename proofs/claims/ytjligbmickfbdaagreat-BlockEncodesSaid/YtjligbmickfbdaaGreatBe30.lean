/- lens.leaves. lens.packages. -/
import Derived.Test.YtjligbmickfbdaaGreatBe29
import Derived.BigRegion
import Derived.Deep.RegionLaw
import Derived.Deep.AppendLies
namespace Go.Proofs.YtjligbmickfbdaaGreat
namespace Ln
open Go.RowKit Go.Lib Go.Sort St
theorem thingPair:Pair2 180 177:=⟨Tryz.underlying177,by kernel_rfl⟩
theorem lv_append (s:Nat):∀(a b:List Int),lv s (a++b)=lv s a++lv (s+a.length) b
 | [],b=>by simp[lv]
 |n::a,b=>by
  have:=lv_append (s+1) a b;simp only[List.cons_append,lv,this,List.length_cons,show s+1+a.length=s+(a.length+1) by omega];split<;>simp
theorem lv_take (l:List Int) (k:Nat) (h:k<l.length):lv 0 (l.take (k+1))=lv 0 (l.take k)++if 0<l[k] then[(l[k],(k:Int))] else[]:=by
 rw[List.take_add_one,List.getElem?_eq_getElem h,lv_append];congr 1;rw[List.length_take,Nat.min_eq_left (by omega),Nat.zero_add];simp only[Option.toList_some,lv]
set_option maxHeartbeats 800000 in
theorem ins_nil (w:World) (f:Value):Calls Tryz.prog 157 #[.slice none 0 0,.int .i64 0,.int .i64 0,f] w fun e w'=>e=.returned (.tuple #[])/\w=w':=by
 go_enter Tryz.func157, Tryz.ntmps157
 go_wp2
 go_rounds 1
 go_wp2
 go_end0
 exact⟨rfl,rfl⟩
set_option maxHeartbeats 800000 in
theorem stable_nil (w:World) (f:Value):Calls Tryz.prog 155 #[.slice none 0 0,.int .i64 0,f] w fun e w'=>e=.returned (.tuple #[])/\w=w':=by
 have hi:=ins_nil w f
 go_enter Tryz.func155, Tryz.ntmps155
 go_wp2_with (go_at_call 157;refine hi.mono ?_;rintro e1 w1 ⟨rfl,rfl⟩)
 go_rounds 1
 go_wp2_with (go_at_call 157;refine hi.mono ?_;rintro e1 w1 ⟨rfl,rfl⟩)
 go_rounds 1
 go_wp2_with fail
 go_rounds 1
 go_wp2
 go_end0
 exact⟨rfl,rfl⟩
set_option maxHeartbeats 800000 in
theorem sortStable_nil (w:World) (f:Value):Calls Tryz.prog 147 #[.slice none 0 0,f] w fun e w'=>e=.returned (.tuple #[])/\w=w':=by
 have hi:=stable_nil w f
 go_enter Tryz.func147, Tryz.ntmps147
 go_wp2_with fail
 refine hi.mono ?_;rintro e1 w1 ⟨rfl,rfl⟩;go_wp2
 go_end0
 exact⟨rfl,rfl⟩
theorem sort_own2 (w:World) (B:Nat) (v:Value) (l:List (Int×Int)) (h:Own2 w B 180 v l) (hl:l.length<=1099511627776) :
  Calls Tryz.prog 147 #[v,.func (.func 148) #[] #[]] w fun e w'=>e=.returned (.tuple #[])/\Own2 w' B 180 v (stab wt l)/\RowKit.Below B w w':=by
 have h2:=h.2;rcases h2 with ⟨rfl,h0⟩|⟨g,cap,cur,rfl,hg,hh,_⟩
 ·have:l=[]:=List.eq_nil_of_length_eq_zero h0
  subst this;refine(sortStable_nil w _).mono ?_;rintro e w' ⟨rfl,rfl⟩;exact⟨rfl,h,Below.refl _ _⟩
 ·have hlt:g<w.heap.size:=(Array.getElem?_eq_some_iff.1 hh).1
  have hc:=sortStable_any g cap l.toArray w (own2_holds h) hlt (by simp;omega);rw[show l.toArray.size=l.length by simp] at hc;refine hc.mono ?_;rintro e w' ⟨rfl,d',S,hd⟩;have hd2:d'.toList=stab wt l:=by rw[hd]
  have hsz:d'.size=l.length:=by rw[<-Array.length_toList,hd2,length_stab]
  refine⟨rfl,?_,swk_below S hg hlt⟩;have:=own2_sorted h S hsz
  rwa [hd2] at this
set_option maxHeartbeats 3200000 in
set_option maxRecDepth 100000 in
theorem leaves_any (A:Option Addr) (n c:Nat) (l:List Int) (w:World) (hn:n<=1000000) (hrd:Rd w w.heap.size 1 A n (l.map (Value.int .i64))) :
  Calls Tryz.prog 124 #[.slice A n c] w fun e w'=>∃v,e=.returned v/\Own2 w' w.heap.size 180 v (stab wt (lv 0 l))/\Below w.heap.size w w':=by
 have hln:l.length=n:=by simpa using hrd.len
 have HL:=Lib.hid hln;have HR:=Lib.hid hrd;clear hln hrd
 go_enter Tryz.func124, Tryz.ntmps124
 go_wp2_with fail
 go_loopg [3,8] n (fun kx s3 s8 wr=>∃(k:Nat),s8=.int .i64 (k:Int)/\k<=n/\n-k<=kx/\Aside (Own2 wr w.heap.size 180 s3 (lv 0 (l.take k))/\Below w.heap.size w wr))
 case atStart=>exact⟨0,rfl,by omega,by omega,World.ownsRow_nil _ _ _ _,Below.refl _ _⟩
 case round =>
  obtain⟨k,rfl,hk,hkx,H⟩:=hrel;by_cases hlt:k<n
  ·obtain⟨ad,x,rfl,had,hx,hcell⟩:=(HR.out.below H.out.2).int1 hlt
   have hkl:k<l.length:=by have:=HL.out;omega
   rw[List.getElem?_eq_getElem hkl,Option.some.injEq] at hx;have hst:=lv_take l k hkl;rw[hx] at hst;have hll:(lv 0 (l.take k)).length<=1099511627776:=by
    have:=length_lv (l.take k) 0;rw[List.length_take] at this;omega
   have HST:=Lib.hid hst;clear hst hx hkl;by_cases h0:0<x
   ·go_wp2_with (at_builtin;refine append2 thingPair H.out.1 hll H.out.2.size ?_;intro A1 n1 c1 w3 hn1 hown1 hb1 hg1)
    have HN:Aside (Own2 w3 w.heap.size 180 (.slice A1 n1 c1) (lv 0 (l.take (k+1)))/\Below w.heap.size w w3):=by
     rw[HST.out,if_pos h0];exact⟨hown1,H.out.2.trans hb1⟩
    clear hown1 hb1 hg1 H;go_roundg (n-(k+1))
    case measure=>omega
    case rel=>exact⟨k+1,by go_num,by omega,by omega,HN.out⟩
   ·have h9:=H.out
    have e9:lv 0 (l.take (k+1))=lv 0 (l.take k):=by rw[HST.out,if_neg h0,List.append_nil]
    rw[<-e9] at h9;have HN:Aside _:=h9;clear h9 H e9;go_wp2_with fail
    go_roundg (n-(k+1))
    case measure=>omega
    case rel=>exact⟨k+1,by go_num,by omega,by omega,HN.out⟩
  ·have hE:=H.out
   have e:l.take k=l:=List.take_of_length_le (by have:=HL.out;omega);rw[e] at hE;have HE:Aside _:=hE;clear H hE e;have hcon:=sort_own2 wr w.heap.size _ (lv 0 l) HE.out.1 (by have:=length_lv l 0;have:=HL.out;omega);have HC:=Lib.hid hcon;clear hcon;go_wp2_with fail
   refine HC.out.mono ?_;rintro e1 w1 ⟨rfl,hown1,hb1⟩;have HF0:=And.intro hown1 (HE.out.2.trans hb1);have HF:Aside _:=HF0;clear hown1 hb1 HF0;go_wp2_with fail
   go_ret
   exact⟨_,rfl,HF.out⟩
end Ln
end Go.Proofs.YtjligbmickfbdaaGreat
namespace Go.Proofs.YtjligbmickfbdaaGreat
namespace Ln
open Go.RowKit Go.Lib Go.Sort St
theorem step_append2 {ops:Array Oper} {o:Oper} {a:Act} {K:Act->World->Prop} {Q:Exit->Act->World->Prop} {E:Prop} {w0:World} {B:Nat} {v:Value} {l:List (Int×Int)} {t ts:TypeId} (s x:Operand) (y z:Int) (hp:Pair2 t ts)
  (hgd:o.guard=none) (ho:o.op=.call { callee:=.builtin .append,args:=#[s,x],argTypes:=#[ts,ts] })
  (hown:Own2 w0 B t v l) (hl:l.length<=1099511627776) (hB:B<=w0.heap.size) (hs:a.eval s=v) (hx:a.eval x=.slice (some ⟨w0.heap.size,0,none⟩) 1 1)
  (h:∀g cap w',Own2 w' B t (.slice (some ⟨g,0,none⟩) (l.length+1) cap) (l++[(y,z)])->RowKit.Below B w0 w'->K (a.put o.dst (.slice (some ⟨g,0,none⟩) (l.length+1) cap)) w') :
  if Region.wanted o (yielded ops a.tmps)=true then Oper.wp Tryz.prog o a ((w0.alloc (.cells #[.int .i64 y,.int .i64 z] t)).drew) K Q else E:=by
 obtain⟨i0,hi,hz0,hz1,hz2⟩:=info_parts hp.info;refine step_append_lies ((w0.alloc (.cells #[.int .i64 y,.int .i64 z] t)).drew) hgd s x ts ho B t i0 (.agg #[.int .i64 0,.int .i64 0]) 2 16 hp.sl hi hz0 hz1 hz2 rfl (by omega) v l.length (fl2 l) hs (World.ownsRow.alloc hown _)
  ⟨w0.heap.size,0,none⟩ 1 1 [.int .i64 y,.int .i64 z] hx rfl ?_ (by intro u hu;simp at hu;rcases hu with rfl|rfl<;>rfl) (by omega) (by simp only[maxLen];omega) (by omega) (Nat.le_trans hB (by simp)) _ rfl ?_
 ·intro j u hu
  rw[Addr.add_lit,Nat.zero_add];show(w0.alloc _).cell? _=_
  rw[World.cell?_alloc_new];simpa using hu
 intro g cap w' hown' hg hat hlt;have hlt0:=World.ownsRow.lt hown;refine h g cap w' ?_ ?_
 ·unfold Own2;rw[fl2_append,List.length_append];exact hown'
 ·exact((Below.refl B w0).alloc hB _).trans ((((Below.refl B _).drew).grown hg (Nat.le_trans hB (by simp)) (fun k hk=>(hlt0 k hk).1)))
theorem packs_two (i:Nat) (x y:Thing) (r:List Thing):packs i (x::y::r)=(x.1+y.1,-1-(i:Int))::packs (i+1) r:=by rw[packs]
theorem packs_few (i:Nat) (l:List Thing) (h:l.length<2):packs i l=[]:=by
 rcases l with _|⟨x,_|⟨y,r⟩⟩
 ·rw[packs];simp
 ·rw[packs];simp
 ·simp at h;omega
set_option maxHeartbeats 3200000 in
set_option maxRecDepth 100000 in
theorem packages_any (g n c:Nat) (l:List Thing) (w:World) (hn:n<=1000000) (hln:l.length=n) (hrd:Rd w w.heap.size 2 (some ⟨g,0,none⟩) n (fl2 l)) (hb:∀x∈l,0<=x.1/\x.1<=1099511627776) :
  Calls Tryz.prog 126 #[.slice (some ⟨g,0,none⟩) n c] w fun e w'=>∃v,e=.returned v/\Own2 w' w.heap.size 180 v (packs 0 l)/\RowKit.Below w.heap.size w w':=by
 have mixed:Tryz.prog.follows .mixedOrders=true:=by kernel_rfl
 have HL:=Lib.hid hln;have HR:=Lib.hid hrd;have HBd:=Lib.hid hb;clear hln hrd hb
 go_enter Tryz.func126, Tryz.ntmps126
 go_wp2_with fail
 go_loopg [3,4] n (fun kx s3 s4 wr=>∃(j:Nat) (acc:List Thing),s4=.int .i64 ((2*j:Nat):Int)/\2*j<=n+1/\n+1-2*j<=kx+1/\Hid (acc++packs j (l.drop (2*j))=packs 0 l)/\Aside (Own2 wr w.heap.size 180 s3 acc/\RowKit.Below w.heap.size w wr))
 case atStart=>exact⟨0,[],rfl,by omega,by omega,rfl,World.ownsRow_nil _ _ _ _,Below.refl _ _⟩
 case round =>
  obtain⟨j,acc,rfl,hj,hjx,heq,H⟩:=hrel;by_cases hlt:2*j+1<n
  ·have hll:=congrArg List.length heq.out
   rw[List.length_append,length_packs 0 l] at hll;have hal:acc.length<=1099511627776:=by have:=HL.out;omega
   obtain⟨x,hx⟩:∃x,l[2*j]? =some x:=⟨l[2*j]'(by have:=HL.out;omega),List.getElem?_eq_getElem _⟩
   obtain⟨y,hy⟩:∃y,l[2*j+1]? =some y:=⟨l[2*j+1]'(by have:=HL.out;omega),List.getElem?_eq_getElem _⟩
   have hxb:=HBd.out x (List.mem_of_getElem? hx);have hyb:=HBd.out y (List.mem_of_getElem? hy);have hst:(acc++[(x.1+y.1,-1-(j:Int))])++packs (j+1) (l.drop (2*(j+1)))=packs 0 l:=by
    rw[<-heq.out,drop_at l (2*j) x hx,drop_at l (2*j+1) y hy,packs_two,show 2*(j+1)=2*j+1+1 by omega];simp
   have hcell:∀k u,(fl2 l)[k]? =some u->wr.cell? ⟨g,k,none⟩=some u:=by
    intro k u hu;obtain⟨ad,e,_,hc⟩:=(HR.out.below H.out.2).cells (by omega);cases e
    have:=hc k u hu
    rwa [Addr.add_lit,Nat.zero_add] at this
   have hcx:=hcell _ _ (fl2_at l (2*j) x hx).1;have hcy:=hcell _ _ (fl2_at l (2*j+1) y hy).1;have HST:=Lib.hid hst;rw[show 2*(2*j)=2*j*2 by omega] at hcx;rw[show 2*(2*j+1)=(2*j+1)*2 by omega] at hcy;have p1:(0:Int)<=2*(j:Int):=by omega
   have p2:2*(j:Int)<(n:Int):=by omega
   have p3:(2*(j:Int)).toNat=2*j:=by omega
   have p4:IntKind.i64.wrap (2*(j:Int)+1)=2*(j:Int)+1:=by rw[IntKind.wrap_i64];omega
   have p5:(0:Int)<=2*(j:Int)+1:=by omega
   have p6:2*(j:Int)+1<(n:Int):=by omega
   have p7:(2*(j:Int)+1).toNat=2*j+1:=by omega
   have p8:IntKind.i64.wrap (j:Int)=(j:Int):=by rw[IntKind.wrap_i64];omega
   have p9:IntKind.i64.wrap (-1-(j:Int))= -1-(j:Int):=by rw[IntKind.wrap_i64];omega
   have p10:IntKind.i64.wrap (x.1+y.1)=x.1+y.1:=by rw[IntKind.wrap_i64];omega
   clear hst hcell hx hy hll;go_wp2_with fail
   go_region_law (refine step_append2 (.tmp 12) (.tmp 29) _ _ thingPair rfl rfl H.out.1 hal H.out.2.size (by simp[Act.eval]) (by simp[Act.eval]) ?_;intro g5 cap w5 hown5 hb5)
   all_goals
    have HN0:=And.intro hown5 (H.out.2.trans hb5);have HN:Aside _:=HN0;clear HN0 hown5 hb5 H;go_wp2_with fail
    go_roundg (n-2*(j+1))
    case measure=>omega
    case rel=>exact⟨j+1,_,by go_num,by omega,by omega,HST.out,HN.out⟩
  ·have hd:packs j (l.drop (2*j))=[]:=packs_few _ _ (by rw[List.length_drop];have:=HL.out;omega)
   have he:=heq.out;rw[hd,List.append_nil] at he;have HE:=Lib.hid he;clear hd he;go_wp2_with fail
   go_ret
   rw[<-HE.out];exact⟨_,rfl,H.out⟩
end Ln
end Go.Proofs.YtjligbmickfbdaaGreat
