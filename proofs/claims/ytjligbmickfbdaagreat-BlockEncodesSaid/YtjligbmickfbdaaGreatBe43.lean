/- take.Caught at squash.Unpack$1. canon.Code: Get. -/
import Derived.Test.YtjligbmickfbdaaGreatBe41
import Derived.Test.YtjligbmickfbdaaGreatBe36
namespace Go.Proofs.YtjligbmickfbdaaGreat
namespace Tk
open Go.RowKit
open Bt (Frm)
def wC (w:World):World:=(w.alloc (.cells #[.int .i64 0] 23)).alloc (.cells #[.int .i64 0] 3)
theorem wC_keep (w:World):Below w.heap.size w (wC w):=((Below.refl _ _).alloc (Nat.le_refl _) _).alloc (by simp) _
theorem wC_vars (w:World):Var (wC w) w.heap.size 23 (.int .i64 0)/\Var (wC w) (w.heap.size+1) 3 (.int .i64 0):=by
 constructor
 ·exact(Var.new w _ _).alloc _
 ·have:=Var.new (w.alloc (.cells #[.int .i64 0] 23)) 3 (.int .i64 0)
  rwa [show(w.alloc (.cells #[.int .i64 0] 23)).heap.size=w.heap.size+1 by simp] at this
set_option maxHeartbeats 6400000 in
set_option maxRecDepth 100000 in
theorem caught_ok (w:World) (caps:Array Value) (G:World->Prop) (hG:∀w',G w'->Var w' w.heap.size 23 (.int .i64 0)/\Var w' (w.heap.size+1) 3 (.int .i64 0))
  (hf:Calls Tryz.prog 39 caps (wC w) fun e w'=>e=.returned (.tuple #[])/\G w') :
  Calls Tryz.prog 38 #[.func (.func 39) #[] caps] w fun e w'=>e=.returned (.tuple #[.int .i64 0,.int .i64 0])/\ ∃w2,G w2/\Keep w2 w' [w.heap.size,w.heap.size+1]:=by
 have mixed:Tryz.prog.follows .mixedOrders=true:=by kernel_rfl
 have hmf:∀(fn:Fn) (first cap:Array Value) (w:World),(Instr.makeFunc fn first cap).run Tryz.prog w=.ok (.func fn first cap) w:=fun _ _ _ _=>rfl
 have HF:=Lib.hid hf;have HG:=Lib.hid hG;clear hf hG;go_enter_defers Tryz.func38,Tryz.ntmps38
 go_wp2_with fail
 refine HF.out.mono ?_;rintro e1 w1 ⟨rfl,h1⟩;obtain⟨v1,v2⟩:=HG.out w1 h1;have c1:=v1.cell;have f1:=v1.frozen;have c2:=v2.cell;have f2:=v2.frozen;have HX:=Lib.hid (And.intro h1 (And.intro v1 v2));clear h1 v1 v2 HF HG;go_wp2_with fail
 refine leaves_cons (f:=76) (args:=#[.pointer (some ⟨w.heap.size,0,none⟩),.pointer (some ⟨w.heap.size+1,0,none⟩)]) (by simp) (by simp[go_sem]) ?_;refine(catch_idle ⟨w.heap.size,0,none⟩ ⟨w.heap.size+1,0,none⟩ _).mono ?_;rintro e u' w'' ⟨rfl,rfl,rfl⟩;have n1:w.heap.size≠w.heap.size+1:=by omega
 have u1:=(HX.out.2.1.set_ (.int .i64 0)).far (p:=⟨w.heap.size+1,0,none⟩) n1 (.int .i64 0);have u2:=(HX.out.2.2.far (p:=⟨w.heap.size,0,none⟩) (Ne.symm n1) (.int .i64 0)).set_ (.int .i64 0);have hk:Keep w1 ((w1.setCell ⟨w.heap.size,0,none⟩ (.int .i64 0)).setCell ⟨w.heap.size+1,0,none⟩ (.int .i64 0)) [w.heap.size,w.heap.size+1] :=
  ((Keep.refl w1 _).set ⟨w.heap.size,0,none⟩ (.inl (by simp)) _).set ⟨w.heap.size+1,0,none⟩ (.inl (by simp)) _
 have d1:=u1.cell;have d2:=u2.cell;simp[Leaves,settle,results,Tryz.results38,go_sem,d1,d2]
 exact⟨w1,HX.out.1,hk⟩
set_option maxHeartbeats 6400000 in
set_option maxRecDepth 100000 in
theorem caught_no (w:World) (caps:Array Value) (x:Int) (G:World->Prop) (hG:∀w',G w'->Var w' w.heap.size 23 (.int .i64 0)/\Var w' (w.heap.size+1) 3 (.int .i64 0))
  (hf:Calls Tryz.prog 39 caps (wC w) fun e w'=>(∃p,e=.panicked [fault x p])/\G w') :
  Calls Tryz.prog 38 #[.func (.func 39) #[] caps] w fun e w'=>(∃p:Int,e=.returned (.tuple #[.int .i64 x,.int .i64 p]))/\ ∃w2,G w2/\Keep w2 w' [w.heap.size,w.heap.size+1]:=by
 have mixed:Tryz.prog.follows .mixedOrders=true:=by kernel_rfl
 have hmf:∀(fn:Fn) (first cap:Array Value) (w:World),(Instr.makeFunc fn first cap).run Tryz.prog w=.ok (.func fn first cap) w:=fun _ _ _ _=>rfl
 have HF:=Lib.hid hf;have HG:=Lib.hid hG;clear hf hG;go_enter_defers Tryz.func38,Tryz.ntmps38
 go_wp2_with fail
 refine HF.out.mono ?_;rintro e1 w1 ⟨⟨p,rfl⟩,h1⟩;obtain⟨v1,v2⟩:=HG.out w1 h1;have n1:w.heap.size≠w.heap.size+1:=by omega
 refine leaves_cons (f:=76) (args:=#[.pointer (some ⟨w.heap.size,0,none⟩),.pointer (some ⟨w.heap.size+1,0,none⟩)]) (by simp) (by simp[go_sem]) ?_;refine(catch_fault w.heap.size (w.heap.size+1) x p w1 _ _ v1 v2 n1).mono ?_;rintro e u' w'' ⟨rfl,rfl,u1,u2,hk⟩;have d1:=u1.cell;have d2:=u2.cell;simp[Leaves,settle,results,Tryz.results38,go_sem,d1,d2]
 exact⟨w1,h1,hk⟩
end Tk
end Go.Proofs.YtjligbmickfbdaaGreat
namespace Go.Proofs.YtjligbmickfbdaaGreat
namespace Cn
open Go.RowKit
open Bt (Frm RdS)
theorem rem_one (s:ByteArray) (q:Nat) (h:q+1<=8*s.size):∃b:Bool,Bt.rem s q=b::Bt.rem s (q+1)/\Bt.bnum s q 1=b.toNat:=by
 have hl:q<(Bt.bits s.data.toList).length:=by
  rw[Bt.length_bits];have:s.data.toList.length=s.size:=rfl;omega
 refine⟨(Bt.bits s.data.toList)[q],?_,?_⟩
 ·exact List.drop_eq_getElem_cons hl
 ·unfold Bt.bnum
  rw[List.drop_eq_getElem_cons hl];cases (Bt.bits s.data.toList)[q]<;>rfl
theorem rem_none (s:ByteArray) (q:Nat) (h: ¬ q+1<=8*s.size):Bt.rem s q=[]:=by
 apply List.drop_eq_nil_of_le
 rw[Bt.length_bits];have:s.data.toList.length=s.size:=rfl;omega
theorem gw_end (l:List Int) (n:Nat) (b:List Bool):gw l n 16 b=none:=by
 cases b with
 |nil=>rfl
 |cons x r=>simp[gw]
theorem joinbit (n:Nat) (b:Bool) (h:n<=1000000):Go.bits .or .i64 (RowKit.wrap64 ((n:Int)*2)) (b.toNat:Int)=((2*n+b.toNat:Nat):Int):=by
 have e:RowKit.wrap64 ((n:Int)*2)=((n*2^1:Nat):Int):=by
  rw[show(n:Int)*2=((n*2^1:Nat):Int) by simp];exact Bt.w64 _ (by simp;omega)
 rw[e,Bt.pk4 n b.toNat 1 (by omega) (by cases b<;>decide) (by cases b<;>decide)];congr 1;omega
theorem joinbit2 (n n2:Nat) (b:Bool) (h:n<=1000000) (e:n2=2*n+b.toNat):Go.bits .or .i64 ((n:Int)*2) (b.toNat:Int)=(n2:Int):=by
 have:=joinbit n b h;rw[show RowKit.wrap64 ((n:Int)*2)=(n:Int)*2 by unfold RowKit.wrap64;omega] at this;rw[this,e]
theorem bit_le (b:Bool):b.toNat<=1:=by cases b<;>decide
theorem rds_set2 {w:World} {b p:Nat} {s:ByteArray} (h:RdS w b s p) (q:Nat):RdS ((w.setCell ⟨b,0,none⟩ (.string s)).setCell ⟨b,1,none⟩ (.int .i64 (q:Int))) b s q:=by
 unfold RdS at *
 simp[World.setCell,Array.getElem?_modify,h]
set_option maxHeartbeats 6400000 in
set_option maxRecDepth 100000 in
theorem cget_any (w:World) (b br p:Nat) (s:ByteArray) (l:List Int) (h:Cd w b l) (hok:Ok l) (hl:l.length<=1000) (hr:RdS w br s p) (hs:s.size<=1000000) (hp:p<=8*s.size) :
  Calls Tryz.prog 79 #[.pointer (some ⟨b,0,none⟩),.pointer (some ⟨br,0,none⟩)] w fun e w' =>
   ((∃sy p',gw l 0 1 (Bt.rem s p)=some (sy,Bt.rem s p')/\e=.returned (.tuple #[.int .i64 sy,.int .i64 0])/\RdS w' br s p'/\p'<=8*s.size) ∨
   (gw l 0 1 (Bt.rem s p)=none/\ ∃x,e=.returned (.tuple #[.int .i64 0,.int .i64 x])/\x≠0))/\Frm w w' br none:=by
 have mixed:Tryz.prog.follows .mixedOrders=true:=by kernel_rfl
 have hcm:=h.made;have hc0:=hr.c0;have hc1:=hr.c1;have H:Aside (Cd w b l/\RdS w br s p/\Ok l):=⟨h,hr,hok⟩
 have hbrl:=hr.lt;clear h hr hok
 go_enter Tryz.func79, Tryz.ntmps79
 go_wp2_with fail
 have hb1:Below w.heap.size w (w.alloc (.cells #[.string s,.int .i64 (p:Int)] 165)):=(Below.refl _ _).alloc (Nat.le_refl _) _;have hr1:RdS (w.alloc (.cells #[.string s,.int .i64 (p:Int)] 165)) w.heap.size s p:=heap_alloc_new w _;have hfm:fs l 15+cn l 15<=2^15:=fits l H.out.2.2 15 (Nat.le_refl _);have H0:Aside _:=And.intro hb1 hr1;generalize w.alloc (.cells #[.string s,.int .i64 (p:Int)] 165)=w1 at *
 clear hb1 hr1 hcm hc0 hc1 hfm;go_loopg [7,8] 16 (fun kx s7 s8 wr=>∃(n D q:Nat),s7=.int .i64 (n:Int)/\s8=.int .i64 (D:Int)/\1<=D/\D<=16/\16-D<=kx/\n<32768/\q<=8*s.size /\
  Aside (Below w.heap.size w wr/\RdS wr w.heap.size s q/\gw l n D (Bt.rem s q)=gw l 0 1 (Bt.rem s p)/\2*n<2^D))
 case atStart=>exact⟨0,1,p,rfl,rfl,by omega,by omega,by omega,by omega,hp,H0.out.1,H0.out.2,rfl,by decide⟩
 case round =>
  clear H0;obtain⟨n,D,q,rfl,rfl,hD1,hD,hkx,hn15,hq,HV⟩:=hrel;by_cases hlt:D<=15
  ·have HG:=Lib.hid (Bt.rget_any wr w.heap.size q 1 s HV.out.2.1 hs hq (by omega) (by omega))
   by_cases hq1:q+1<=8*s.size
   ·obtain⟨bt,hbt,hbn⟩:=rem_one s q hq1
    have hcon:Calls Tryz.prog 111 #[.pointer (some ⟨w.heap.size,0,none⟩),.int .i64 1] wr fun e w'=>e=.returned (.tuple #[.int .i64 (bt.toNat:Int),.int .i64 0])/\RdS w' w.heap.size s (q+1)/\Frm wr w' w.heap.size none:=by
     have:=HG.out;simp only[if_pos hq1,hbn] at this;exact this
    have HC:=Lib.hid hcon;have HBT:=Lib.hid hbt;have hb1:=bit_le bt;clear hcon hbt hbn HG;go_wp2_with fail
    refine HC.out.mono ?_;rintro e2 w2 ⟨rfl,hr2,hf2⟩;have hb2:Below w.heap.size w w2:=HV.out.1.trans (hf2.below (Nat.le_refl _) HV.out.2.1.lt (by simp));have hcd:=H.out.1.ext hb2;have hfit:=fits l H.out.2.2 D hlt;have hp15':2^D<=32768:=Nat.pow_le_pow_right (by omega) hlt;have hpe:2^D%2=0:=by
     obtain⟨d,rfl⟩:∃d,D=d+1:=⟨D-1,by omega⟩
     rw[Nat.pow_succ];omega
    have hn2:2*n+bt.toNat<2^D:=by have:=HV.out.2.2.2;omega
    have hn22:2*(2*n+bt.toNat)<2^(D+1):=by rw[Nat.pow_succ];omega
    obtain⟨n2,hn2e⟩:∃n2,n2=2*n+bt.toNat:=⟨_,rfl⟩
    have HJ:=Lib.hid (joinbit2 n n2 bt (by omega) hn2e);rw[<-hn2e] at hn2 hn22;have HF:=Lib.hid (find_any w2 b n2 D l hcd H.out.2.2.rng hl (by omega) hlt (by omega));have hn2b:n2<32768:=by omega
    have hgw:gw l n D (Bt.rem s q)=match fnd l n2 D with|some sy=>some (sy,Bt.rem s (q+1))|none=>gw l n2 (D+1) (Bt.rem s (q+1)):=by
     rw[HBT.out,hn2e];show(if 15<D then none else _)=_
     rw[if_neg (by omega)];cases fnd l (2*n+bt.toNat) D<;>rfl
    have HGW:=Lib.hid hgw;have H2:Aside _:=And.intro hb2 hr2;have HN2:=Lib.hid hn22;clear hgw hcd hfit hp15' hn2 hb2 hr2 hf2 HC hn2e hpe hn22 hb1;obtain⟨z,hz⟩:∃z,z=(bt.toNat:Int):=⟨_,rfl⟩
    rw[<-hz] at HJ ⊢;clear hz;go_wp2_with fail
    rw[HJ.out];rcases hF:fnd l n2 D with _|sy
    ·have hf:Calls Tryz.prog 114 #[.pointer (some ⟨b,0,none⟩),.int .i64 (n2:Int),.int .i64 (D:Int)] w2 fun e w'=>e=.returned (.tuple #[.int .i64 0,.bool false])/\ ∃m,w'=w2.drewN m:=by
      have:=HF.out;rw[hF] at this;exact this
     have hg:gw l n D (Bt.rem s q)=gw l n2 (D+1) (Bt.rem s (q+1)):=by
      have:=HGW.out;rw[hF] at this;exact this
     have HG:=Lib.hid hg;clear hg HF HGW hF HJ HBT;refine hf.mono ?_;rintro e3 w3 ⟨rfl,m,rfl⟩;clear hf;go_wp2_with fail
     go_roundg (16-(D+1))
     case measure=>omega
     case rel=>exact⟨n2,D+1,q+1,rfl,by go_num,by omega,by omega,by omega,by omega,by omega,below_drewN H2.out.1 m,H2.out.2.drewN m,by rw[<-HG.out];exact HV.out.2.2.1,HN2.out⟩
    ·have hf:Calls Tryz.prog 114 #[.pointer (some ⟨b,0,none⟩),.int .i64 (n2:Int),.int .i64 (D:Int)] w2 fun e w'=>e=.returned (.tuple #[.int .i64 sy,.bool true])/\ ∃m,w'=w2.drewN m:=by
      have:=HF.out;rw[hF] at this;exact this
     have hg:gw l n D (Bt.rem s q)=some (sy,Bt.rem s (q+1)):=by
      have:=HGW.out;rw[hF] at this;exact this
     have HG:=Lib.hid hg;clear hg HF HGW hF HJ HBT;refine hf.mono ?_;rintro e3 w3 ⟨rfl,m,rfl⟩;clear hf;have hbm:=below_drewN H2.out.1 m;have hrm:=H2.out.2.drewN m;generalize w2.drewN m=w3 at *
     have hbr3:RdS w3 br s p:=(hbm.block br hbrl).trans H.out.2.1;have hk0:=hrm.c0;have hk1:=hrm.c1;have hb0:=hbr3.c0;have hb1:=hbr3.c1;have hf0:=hbr3.fz 0;have hf1:=hbr3.fz 1;have HB:=Lib.hid hbm;have HB3:=Lib.hid hbr3;clear hbm hrm hbr3;go_wp2_with fail
     go_ret2
     refine⟨.inl ⟨sy,q+1,?_,rfl,rds_set2 HB3.out (q+1),hq1⟩,((frm_of_below HB.out br none).set 0 _).set 1 _⟩;rw[<-HV.out.2.2.1];exact HG.out
   ·have hcon:Calls Tryz.prog 111 #[.pointer (some ⟨w.heap.size,0,none⟩),.int .i64 1] wr fun e w'=>e=.returned (.tuple #[.int .i64 0,.int .i64 4])/\ ∃m,w'=wr.drewN m:=by
     have:=HG.out;simp only[if_neg hq1] at this;exact this
    have HC:=Lib.hid hcon;have hno:=rem_none s q hq1;have hgn:gw l 0 1 (Bt.rem s p)=none:=by
     rw[<-HV.out.2.2.1,hno];rfl
    have HN:=Lib.hid hgn;have e1:(D:Int)-1=((D-1:Nat):Int):=by omega
    clear hcon HG hno hgn;go_wp2_with fail
    refine HC.out.mono ?_;rintro e2 w2 ⟨rfl,m,rfl⟩;have hb2:=below_drewN HV.out.1 m;have HE:=Lib.hid (ended_any (wr.drewN m) b n (D-1) l (H.out.1.ext hb2) (by omega) (by omega));have HB:=Lib.hid hb2;clear hb2 HC;go_wp2_with fail
    try rw[e1]
    refine HE.out.mono ?_;rintro e3 w3 ⟨⟨x,rfl,hx⟩,m3,rfl⟩;clear HE e1;go_wp2_with fail
    go_ret2
    exact⟨.inr ⟨HN.out,x,rfl,hx⟩,frm_of_below (below_drewN HV.out.1 (m+m3)) br none⟩
  ·obtain rfl:D=16:=by omega
   have hgn:gw l 0 1 (Bt.rem s p)=none:=by
    rw[<-HV.out.2.2.1];exact gw_end l n _
   have HN:=Lib.hid hgn;clear hgn;go_wp2_with fail
   go_ret2
   exact⟨.inr ⟨HN.out,40,rfl,by decide⟩,frm_of_below HV.out.1 br none⟩
end Cn
end Go.Proofs.YtjligbmickfbdaaGreat
