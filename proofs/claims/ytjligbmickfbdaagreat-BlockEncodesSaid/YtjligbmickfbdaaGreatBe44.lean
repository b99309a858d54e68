/- tab.Get$1, tab.Get. -/
import Derived.Test.YtjligbmickfbdaaGreatBe39
import Derived.Test.YtjligbmickfbdaaGreatBe43
import Derived.Test.YtjligbmickfbdaaGreatBe06
import Derived.Test.YtjligbmickfbdaaGreatBe16
namespace Go.Proofs.YtjligbmickfbdaaGreat
namespace Tb
open Go.RowKit Cn
open Bt (Frm RdS)
theorem held_any (w:World) (bf:Nat) (n e:Int) (h:Var w bf 23 (.int .i64 0)) :
  Calls Tryz.prog 110 #[.int .i64 n,.int .i64 e,.pointer (some ⟨bf,0,none⟩)] w fun x w'=>x=.returned (.int .i64 n)/\w'=w.setCell ⟨bf,0,none⟩ (.int .i64 e):=by
 have hc:=h.cell;have hf:=h.frozen
 go_enter Tryz.func110, Tryz.ntmps110
 go_wp2_with fail
 go_ret
 exact⟨rfl,rfl⟩
theorem nz_at:∀(l:List Bool),Bt.nz l<l.length-> ∃r,l.drop (Bt.nz l)=true::r
 | [],h=>by simp at h
 |true::r,_=>⟨r,by simp[Bt.nz]⟩
 |false::r,h=>by
  have e:Bt.nz (false::r)=Bt.nz r+1:=by simp[Bt.nz]
  rw[e] at h ⊢;exact nz_at r (by simpa using h)
theorem gam_pos (b:List Bool) (h:(Bt.getGam b).1=0):1<=(Bt.getGam b).2.1:=by
 unfold Bt.getGam at h ⊢;split at h
 ·simp at h
 ·rename_i h0
  rw[if_neg h0];split at h
  ·simp at h
  ·rename_i h1
   rw[if_neg h1];split at h
   ·simp at h
   ·rename_i h2
    rw[if_neg h2];split at h
    ·simp at h
    ·rename_i h3
     rw[if_neg h3];have hz:Bt.nz b<b.length:=by omega
     obtain⟨r,hr⟩:=nz_at b hz;show 1<=Bt.ofB ((b.drop (Bt.nz b)).take (Bt.nz b+1))
     rw[hr,List.take_succ_cons];show 1<=(if true then 2^(r.take (Bt.nz b)).length else 0)+Bt.ofB (r.take (Bt.nz b))
     have:=Nat.one_le_two_pow (n:=(r.take (Bt.nz b)).length);simp only[if_true];omega
def comb (acc:List Int) (o:Option (List Int×List Bool)):Option (List Int×List Bool):=match o with|none=>none|some x=>some (acc++x.1,x.2)
theorem comb_nil (o:Option (List Int×List Bool)):comb [] o=o:=by cases o<;>rfl
theorem tg_done (f:Nat) (last:Int) (b:List Bool):tg f last 0 b=some ([],b):=by cases f<;>rfl
theorem rem_drop (s:ByteArray) (q k:Nat):(Bt.rem s q).drop k=Bt.rem s (q+k):=by unfold Bt.rem;rw[List.drop_drop]
theorem rds_set3 {w:World} {b p p0:Nat} {s s0:ByteArray} (h:RdS w b s0 p0):RdS ((w.setCell ⟨b,0,none⟩ (.string s)).setCell ⟨b,1,none⟩ (.int .i64 (p:Int))) b s p:=by
 unfold RdS at *
 simp[World.setCell,Array.getElem?_modify,h]
structure St (w wr:World) (bl bf:Nat) (s:ByteArray) (q:Nat) (v:Value) (acc:List Int) (flt:Int):Prop where
 rd:RdS wr bl s q
 fl:Var wr bf 23 (.int .i64 flt)
 own:Own wr (bf+1) v acc
 bel:Below w.heap.size w wr
 ge:w.heap.size<=bl/\bl<bf
section
variable {w wr w2:World} {bl bf q:Nat} {s:ByteArray} {v:Value} {acc:List Int} {flt:Int} (h:St w wr bl bf s q v acc flt)
include h
theorem St.drewN (m:Nat):St w (wr.drewN m) bl bf s q v acc flt:=⟨h.rd.drewN m,h.fl,h.own,below_drewN h.bel m,h.ge⟩
theorem St.drew:St w wr.drew bl bf s q v acc flt:=⟨h.rd,h.fl,h.own,h.bel.drew,h.ge⟩
theorem St.lt:bf<wr.heap.size:=h.fl.lt
theorem St.ob:v.ownBlock≠some bl/\v.ownBlock≠some bf:=by
 constructor
 ·intro e;have:=(World.ownsRow.lt h.own bl e).1;have:=h.ge;omega
 ·intro e;have:=(World.ownsRow.lt h.own bf e).1;omega
theorem St.held (x:Int):St w (wr.setCell ⟨bf,0,none⟩ (.int .i64 x)) bl bf s q v acc x:=by
 refine⟨(Below.heap_setCell wr ⟨bf,0,none⟩ _ bl (by have:=h.ge;show bl≠bf;omega)).trans h.rd,h.fl.set_ _,own_setCell_far (a:=⟨bf,0,none⟩) h.own h.ob.2 _,h.bel.setCell (p:=⟨bf,0,none⟩) (by have:=h.ge;show w.heap.size<=bf;omega) _,h.ge⟩
theorem St.alloc (o:Obj):St w (wr.alloc o) bl bf s q v acc flt :=
 ⟨(Below.heap_alloc wr o bl (by have:=h.lt;have:=h.ge;omega)).trans h.rd,h.fl.alloc o,World.ownsRow.alloc h.own o,h.bel.alloc h.bel.size o,h.ge⟩
theorem St.far (p:Addr) (hp:bf<p.block) (hv:v.ownBlock≠some p.block) (u:Value):St w (wr.setCell p u) bl bf s q v acc flt :=
 ⟨(Below.heap_setCell wr p u bl (by have:=h.ge;omega)).trans h.rd,h.fl.far (by omega) u,own_setCell_far h.own hv u,h.bel.setCell (by have:=h.ge;omega) u,h.ge⟩
theorem St.move (hf:Frm wr w2 bl none) {q2:Nat} (hr:RdS w2 bl s q2):St w w2 bl bf s q2 v acc flt :=
 ⟨hr,(hf.blk bf h.lt (by have:=h.ge;omega) (by simp)).trans h.fl,Fr.own_frm h.own hf h.ob.1 (by simp),h.bel.trans (hf.below (B:=w.heap.size) h.ge.1 (by have:=h.lt;have:=h.ge;omega) (by simp)),h.ge⟩
end
set_option maxHeartbeats 6400000 in
set_option maxRecDepth 100000 in
theorem tget_any (w:World) (br p:Nat) (s:ByteArray) (hr:RdS w br s p) (hs:s.size<=1000000) (hp:p<=8*s.size) :
  Calls Tryz.prog 78 #[.pointer (some ⟨br,0,none⟩),.int .i64 257] w fun e w' =>
   ((∃l p' v,tg 257 (-1) 257 (Bt.rem s p)=some (l,Bt.rem s p')/\checkE l=0/\e=.returned (.tuple #[v,.int .i64 0])/\Own w' w.heap.size v l/\RdS w' br s p'/\p'<=8*s.size) ∨
    ((∀l r,tg 257 (-1) 257 (Bt.rem s p)=some (l,r)->checkE l≠0)/\ ∃x,e=.returned (.tuple #[.slice none 0 0,.int .i64 x])/\x≠0))/\Frm w w' br none:=by
 have mixed:Tryz.prog.follows .mixedOrders=true:=by kernel_rfl
 have hc0:=hr.c0;have hc1:=hr.c1;have hbrl:=hr.lt;have HR:=Lib.hid hr;obtain⟨T,hT⟩:∃T,T=tg 257 (-1) 257 (Bt.rem s p):=⟨_,rfl⟩
 have HT:=Lib.hid hT;simp only[<-hT];clear hr hT
 go_enter Tryz.func78, Tryz.ntmps78
 go_wp2_with fail
 refine(Bt.newReader_any w ⟨#[]⟩).mono ?_;rintro e1 w1 ⟨rfl,hl1,hb1⟩;have hr1:RdS w1 br s p:=(hb1.block br hbrl).trans HR.out;have hd0:=hr1.c0;have hd1:=hr1.c1;have hl0:=hl1.c0;have hl1':=hl1.c1;have hf0:=hl1.fz 0;have hf1:=hl1.fz 1;have HL1:=Lib.hid (And.intro hl1 hb1);clear hc0 hc1 hr1 hl1 hb1;go_wp2_with (at_make;(refine make0 (n:=257) (by omega) (Nat.le_refl _) ?_);intro w3 hown3 hg3 hz3)
 have hsz:(((w1.setCell ⟨w.heap.size,0,none⟩ (.string s)).setCell ⟨w.heap.size,1,none⟩ (.int .i64 (p:Int))).alloc (.cells #[.int .i64 0] 23)).heap.size=w1.heap.size+1:=by simp[World.setCell]
 rw[hsz] at hown3;have hszs:((w1.setCell ⟨w.heap.size,0,none⟩ (.string s)).setCell ⟨w.heap.size,1,none⟩ (.int .i64 (p:Int))).heap.size=w1.heap.size:=by simp[World.setCell]
 have hbl:w.heap.size<w1.heap.size:=HL1.out.1.lt;have hst:St w w3 w.heap.size w1.heap.size s p (.slice (some ⟨w1.heap.size+1,0,none⟩) 0 257) [] 0:=by
  refine⟨?_,?_,hown3,?_,Nat.le_refl _,hbl⟩
  ·have h1:=rds_set3 (s:=s) (p:=p) HL1.out.1
   exact(hg3.block w.heap.size (by omega) (by simp)).trans ((Below.heap_alloc _ _ w.heap.size (by omega)).trans h1)
  ·have h1:=Var.new ((w1.setCell ⟨w.heap.size,0,none⟩ (.string s)).setCell ⟨w.heap.size,1,none⟩ (.int .i64 (p:Int))) 23 (.int .i64 0)
   rw[hszs] at h1;exact h1.grown hg3 (by simp)
  ·have h1:=((HL1.out.2.setCell (p:=⟨w.heap.size,0,none⟩) (Nat.le_refl _) (.string s)).setCell (p:=⟨w.heap.size,1,none⟩) (Nat.le_refl _) (.int .i64 (p:Int))).alloc (by omega) (.cells #[.int .i64 0] 23)
   exact h1.grown hg3 (by omega) (by simp)
 have H0:Aside _:=hst;obtain⟨bl,hble⟩:∃bl,bl=w.heap.size:=⟨_,rfl⟩
 obtain⟨bf,hbfe⟩:∃bf,bf=w1.heap.size:=⟨_,rfl⟩
 rw[<-hble,<-hbfe] at H0 ⊢;clear hsz hszs hown3 hg3 hz3 hst HL1 hd0 hd1 hl0 hl1' hf0 hf1 hble hbfe hbl;go_loopg [9,10] 257 (fun kx s9 s10 wr=>∃(last:Int) (acc:List Int) (q f n:Nat) (v:Value) (A:Option Addr) (c:Nat),v=s9/\v=.slice A n c/\s10=.int .i64 last/\ -1<=last/\last<=15/\n<=257/\257-n<=kx/\257-n<=f/\q<=8*s.size /\
  Aside (St w wr bl bf s q v acc 0/\acc.length=n)/\Hid (T=comb acc (tg f last (257-n) (Bt.rem s q))))
 case atStart=>exact⟨-1,[],p,257,0,_,some ⟨bf+1,0,none⟩,257,rfl,rfl,rfl,by omega,by omega,by omega,by omega,by omega,hp,⟨H0.out,rfl⟩,(by rw[comb_nil];exact HT.out)⟩
 case round =>
  clear H0;obtain⟨last,acc,q,f,n,v,A,c,hv,rfl,rfl,hl1,hl2,hn,hnx,hf,hq,H,hTT⟩:=hrel;subst hv;by_cases hlt:n<257
  ·have HG:=Lib.hid (Bt.rget_any wr bl q 4 s H.out.1.rd hs hq (by omega) (by omega))
   have hlr:=Bt.length_rem s q;by_cases h4:q+4<=8*s.size
   ·have hcon:Calls Tryz.prog 111 #[.pointer (some ⟨bl,0,none⟩),.int .i64 4] wr fun e w'=>e=.returned (.tuple #[.int .i64 (Bt.bnum s q 4:Int),.int .i64 0])/\RdS w' bl s (q+4)/\Frm wr w' bl none:=by
     have:=HG.out;simp only[if_pos h4] at this;exact this
    have HC:=Lib.hid hcon;have hx:Bt.ofB ((Bt.rem s q).take 4)=Bt.bnum s q 4:=rfl;have hx16:=Bt.bnum_lt s q 4;have HX4:=Lib.hid hx;obtain⟨x,hxe⟩:∃x,x=Bt.bnum s q 4:=⟨_,rfl⟩
    rw[<-hxe] at HC HX4 hx16;have hx16':x<16:=hx16;have hrd4:=rem_drop s q 4;have HRD4:=Lib.hid hrd4;clear hcon HG hx hxe hx16 hrd4;go_wp2_with fail
    refine HC.out.mono ?_;rintro e4 w4 ⟨rfl,hr4,hf4⟩;have hs4:=H.out.1.move hf4 hr4;have HH:=Lib.hid (held_any w4 bf (x:Int) 0 hs4.fl);have HS5:=Lib.hid (hs4.held 0);clear hs4 hr4 hf4 HC;go_wp2_with fail
    refine HH.out.mono ?_;rintro e5 w5 ⟨rfl,rfl⟩;generalize w4.setCell ⟨bf,0,none⟩ (.int .i64 0)=w5 at *
    have hs6:=HS5.out.alloc (.cells #[.int .i64 (x:Int),.int .i64 0] 137);have hcf:=HS5.out.fl.cell;have hcf6:=hs6.fl.cell;have hrx:(w5.alloc (.cells #[.int .i64 (x:Int),.int .i64 0] 137)).heap[w5.heap.size]? =some (.cells #[.int .i64 (x:Int),.int .i64 0] 137 (0,0)):=heap_alloc_new w5 _;have hvb:(Value.slice A n c).ownBlock≠some w5.heap.size:=by
     intro e;have:=(World.ownsRow.lt HS5.out.own _ e).2;omega
    have hbx:bf<w5.heap.size:=HS5.out.lt;have HS6:=Lib.hid (And.intro hs6 (And.intro hrx (And.intro hvb hbx)));have HGM:=Lib.hid (Bt.rgamma_any _ bl (q+4) s hs6.rd hs h4);have hcx0:=cell_of_row _ w5.heap.size 0 _ _ (0,0) hrx;clear hs6 hrx hvb hbx;go_wp2_with fail
    generalize w5.alloc (.cells #[.int .i64 (x:Int),.int .i64 0] 137)=w6 at *
    generalize w5.heap.size=bx at *
    obtain⟨gn,hgn⟩:∃gn,gn=(Bt.getGam (Bt.rem s (q+4))).2.1:=⟨_,rfl⟩
    obtain⟨ge,hge⟩:∃ge,ge=(Bt.getGam (Bt.rem s (q+4))).1:=⟨_,rfl⟩
    have hgp:=gam_pos (Bt.rem s (q+4));rw[<-hgn,<-hge] at hgp;have htg:∀lf f',tg (f'+1) last (lf+1) (Bt.rem s q)=if ge≠0 then none else if(x:Int)=last then none else if lf+1<gn then none else comb (List.replicate gn (x:Int)) (tg f' (x:Int) (lf+1-gn) (Bt.getGam (Bt.rem s (q+4))).2.2):=by
     intro lf f';show(if(Bt.rem s q).length<4 then none else _)=_
     rw[if_neg (by rw[Bt.length_rem];omega),HRD4.out,HX4.out,<-hgn,<-hge];by_cases c1:ge≠0
     ·rw[if_pos c1,if_pos c1]
     ·rw[if_neg c1,if_neg c1]
      by_cases c2:(x:Int)=last
      ·rw[if_pos c2,if_pos c2]
      ·rw[if_neg c2,if_neg c2]
       by_cases c3:lf+1<gn
       ·rw[if_pos c3,if_pos c3]
       ·rw[if_neg c3,if_neg c3]
        cases tg f' (x:Int) (lf+1-gn) (Bt.getGam (Bt.rem s (q+4))).2.2<;>rfl
    simp only[<-hgn,<-hge] at HGM;have HTG:=Lib.hid htg;have HGP:=Lib.hid hgp;have HGN:=Lib.hid hgn;obtain⟨lf,hlf⟩:∃lf,257-n=lf+1:=⟨257-n-1,by omega⟩
    obtain⟨f',rfl⟩:∃f',f=f'+1:=⟨f-1,by omega⟩
    have hTT2:=hTT.out;rw[hlf,htg] at hTT2;have HTT2:=Lib.hid hTT2;clear htg hgp hgn hge hTT2 hcf hcf6 hcx0;refine HGM.out.mono ?_;rintro e7 w7 ⟨rfl,hcase⟩;obtain⟨hs6,hr6,hv6,hbx6⟩:=HS6.out;have hblx:bl≠bx:=by have:=hs6.ge;omega
    have HV6:=Lib.hid hv6;rcases hcase with ⟨hge,m,rfl⟩|⟨hge,hr7,hrem7,hp7,hf7⟩
    ·have hs7:=hs6.drewN m
     have hr7:(w6.drewN m).heap[bx]? =some (.cells #[.int .i64 (x:Int),.int .i64 0] 137 (0,0)):=hr6;have hTn:T=none:=by rw[HTT2.out,if_pos hge];rfl
     have HTN:=Lib.hid hTn;have hgb:(ge==0)=false:=by rw[beq_eq_false_iff_ne];exact hge
     have hgb2:(ge != 0)=true:=by rw[bne_iff_ne];exact hge
     have HH7:=Lib.hid (held_any (w6.drewN m) bf (gn:Int) ge hs7.fl);have hs8:=hs7.held ge;have hr8:((w6.drewN m).setCell ⟨bf,0,none⟩ (.int .i64 ge)).heap[bx]? =some (.cells #[.int .i64 (x:Int),.int .i64 0] 137 (0,0)):=(Below.heap_setCell _ ⟨bf,0,none⟩ _ bx (by show bx≠bf;omega)).trans hr7;have HS8:=Lib.hid (And.intro hs8 hr8);have HGE:=Lib.hid hge;clear hs7 hr7 hTn hge hs8 hr8 hs6 hr6 hv6 HS6 HGM;go_wp2_with fail
     refine HH7.out.mono ?_;rintro e8 w8 ⟨rfl,rfl⟩;generalize (w6.drewN m).setCell ⟨bf,0,none⟩ (.int .i64 ge)=w8 at *
     have hcx1:=cell_of_row _ bx 1 _ _ (0,0) HS8.out.2;have hfx1:=frozen_of_row _ bx 1 _ _ HS8.out.2;have hs9:=HS8.out.1.far ⟨bx,1,none⟩ hbx6 HV6.out (.int .i64 (gn:Int));have hcf9:=hs9.fl.cell;have HS9:=Lib.hid hs9;clear hs9;go_wp2_with fail
     go_region
     go_wp2_with fail
     go_ret2
     exact⟨.inr ⟨fun l r h=>(by rw[HTN.out] at h;cases h),ge,rfl,HGE.out⟩,frm_of_below HS9.out.drew.bel br none⟩
    ·subst hge
     have hgn1:1<=gn:=HGP.out rfl;obtain⟨q2,hq2⟩:∃q2,q2=q+4+(2*Bt.nz (Bt.rem s (q+4))+1):=⟨_,rfl⟩
     rw[<-hq2] at hr7 hrem7 hp7;have hs7:=hs6.move hf7 hr7;have hrx7:w7.heap[bx]? =some (.cells #[.int .i64 (x:Int),.int .i64 0] 137 (0,0)):=(hf7.blk bx (Array.getElem?_eq_some_iff.1 hr6).1 (Ne.symm hblx) (by simp)).trans hr6;have HH7:=Lib.hid (held_any w7 bf (gn:Int) 0 hs7.fl);have hs8:=hs7.held 0;have hr8:(w7.setCell ⟨bf,0,none⟩ (.int .i64 0)).heap[bx]? =some (.cells #[.int .i64 (x:Int),.int .i64 0] 137 (0,0)):=(Below.heap_setCell _ ⟨bf,0,none⟩ _ bx (by show bx≠bf;omega)).trans hrx7;have HS8:=Lib.hid (And.intro hs8 hr8);have HTT3:=HTT2.out;rw[if_neg (by decide),hrem7] at HTT3;have HT3:=Lib.hid HTT3;clear hs7 hr7 hrx7 hrem7 hf7 hs8 hr8 hs6 hr6 hv6 HS6 HGM HTT2 HTT3 HTG HGN hq2;go_wp2_with fail
     refine HH7.out.mono ?_;rintro e8 w8 ⟨rfl,rfl⟩;generalize w7.setCell ⟨bf,0,none⟩ (.int .i64 0)=w8 at *
     have hcx1:=cell_of_row _ bx 1 _ _ (0,0) HS8.out.2;have hfx1:=frozen_of_row _ bx 1 _ _ HS8.out.2;have hs9:=HS8.out.1.far ⟨bx,1,none⟩ hbx6 HV6.out (.int .i64 (gn:Int));have hr9:(w8.setCell ⟨bx,1,none⟩ (.int .i64 (gn:Int))).heap[bx]? =some (.cells #[.int .i64 (x:Int),.int .i64 (gn:Int)] 137 (0,0)):=by
      have:=Cn.row_set (k:=1) (u:=.int .i64 (gn:Int)) (l:=[.int .i64 (x:Int),.int .i64 0]) HS8.out.2;exact this
     have hcf9:=hs9.fl.cell;have hcx9:=cell_of_row _ bx 0 _ _ (0,0) hr9;have hcx91:=cell_of_row _ bx 1 _ _ (0,0) hr9;have HS9:=Lib.hid (And.intro hs9 hr9);clear hs9 hr9 HS8 HH7;by_cases hxl:(x:Int)=last
     ·have hTn:T=none:=by rw[HT3.out,if_pos hxl];rfl
      have HTN:=Lib.hid hTn;have hxb:((x:Int)==last)=true:=by rw[beq_iff_eq];exact hxl
      clear hTn hxl;go_wp2_with fail
      go_ret2
      exact⟨.inr ⟨fun l r h=>(by rw[HTN.out] at h;cases h),5,rfl,by decide⟩,frm_of_below HS9.out.1.bel br none⟩
     ·have hxb:((x:Int)==last)=false:=by rw[beq_eq_false_iff_ne];exact hxl
      by_cases hgt:257-n<gn
      ·have hTn:T=none:=by rw[HT3.out,if_neg hxl,if_pos (by omega)];rfl
       have HTN:=Lib.hid hTn;have hgi:(257:Int)-(n:Int)<(gn:Int):=by omega
       clear hTn hxl;go_wp2_with fail
       go_ret2
       exact⟨.inr ⟨fun l r h=>(by rw[HTN.out] at h;cases h),40,rfl,by decide⟩,frm_of_below HS9.out.1.bel br none⟩
      ·have hgi: ¬ (257:Int)-(n:Int)<(gn:Int):=by omega
       have hT4:T=comb (acc++List.replicate gn (x:Int)) (tg f' (x:Int) (257-(n+gn)) (Bt.rem s q2)):=by
        rw[HT3.out,if_neg hxl,if_neg (by omega),show lf+1-gn=257-(n+gn) by omega];cases tg f' (x:Int) (257-(n+gn)) (Bt.rem s q2) with
        |none=>rfl
        |some z=>simp[comb]
       have HT4:=Lib.hid hT4;have HV7:=Lib.hid (show(Value.slice A n c).ownBlock≠some bx from HV6.out);have HACC:=Lib.hid H.out.2;clear hT4 hxl HT3 hTT H HV6 HX4 HRD4;go_wp2_with fail
       generalize w8.setCell ⟨bx,1,none⟩ (.int .i64 (gn:Int))=w9 at *
       go_loopg [9,69] gn (fun jx s9 s69 wy=>∃(j:Nat) (A':Option Addr) (c':Nat),s9=.slice A' (n+j) c'/\s69=.int .i64 (j:Int)/\j<=gn/\gn-j<=jx /\
        Aside (St w wy bl bf s q2 (.slice A' (n+j) c') (acc++List.replicate j (x:Int)) 0/\(Value.slice A' (n+j) c').ownBlock≠some bx/\wy.heap[bx]? =some (.cells #[.int .i64 (x:Int),.int .i64 (gn:Int)] 137 (0,0))))
       case atStart=>exact⟨0,A,c,rfl,rfl,by omega,by omega,by simpa using HS9.out.1,HV7.out,HS9.out.2⟩
       case round =>
        obtain⟨j,A',c',rfl,rfl,hj,hjx,HW⟩:=hrel;have hcy0:=cell_of_row _ bx 0 _ _ (0,0) HW.out.2.2;have hcy1:=cell_of_row _ bx 1 _ _ (0,0) HW.out.2.2;have hbxl:=(Array.getElem?_eq_some_iff.1 HW.out.2.2).1;by_cases hjl:j<gn
        ·have HO:=Lib.hid HW.out.1.own
         have hall:(acc++List.replicate j (x:Int)).length<=1099511627776:=by rw[List.length_append,HACC.out,List.length_replicate];omega
         have HALL:=Lib.hid hall;have hwl:=HW.out.1.lt;clear hall;go_wp2_with (at_builtin;refine append1 HO.out HALL.out hwl ?_;intro A4 n4 c4 w4 hn4 hown4 hb4 hg4 hat4)
         have hge:=HW.out.1.ge;have hob:=HW.out.1.ob;have hr4:w4.heap[bx]? =some (.cells #[.int .i64 (x:Int),.int .i64 (gn:Int)] 137 (0,0)):=(hg4.block bx hbxl (fun e=>HW.out.2.1 e.symm)).trans HW.out.2.2;have hv4:(Value.slice A4 n4 c4).ownBlock≠some bx:=by
          rcases hat4 with e|⟨g,e,hg⟩
          ·rw[e];exact HW.out.2.1
          ·rw[e];intro e2;have:=Option.some.inj e2;omega
         have hnn:n4=n+(j+1):=by
          have h0:n4=(acc++List.replicate j (x:Int)).length+1:=hn4.out;rw[h0,List.length_append,HACC.out,List.length_replicate];omega
         have hst4:St w w4 bl bf s q2 (.slice A4 n4 c4) (acc++List.replicate (j+1) (x:Int)) 0:=by
          refine⟨(hg4.block bl (by omega) (fun e=>hob.1 e.symm)).trans HW.out.1.rd,HW.out.1.fl.grown hg4 hob.2,?_,HW.out.1.bel.trans (hb4.mono (by omega)),hge⟩;rw[List.replicate_succ',<-List.append_assoc];exact hown4
         have hX:=And.intro hst4 (And.intro hv4 hr4);subst hnn;have HX:Aside _:=hX;clear hX hst4 hv4 hr4 hown4 hb4 hg4 hat4 hn4 hob hge HO;go_wp2_with fail
         go_roundg (gn-(j+1))
         case measure=>omega
         case rel=>exact⟨j+1,A4,c4,rfl,by go_num,by omega,by omega,HX.out⟩
        ·obtain rfl:j=gn:=by omega
         have hacl:(acc++List.replicate j (x:Int)).length=n+j:=by rw[List.length_append,HACC.out,List.length_replicate]
         have HACL:=Lib.hid hacl;have HX:=Lib.hid HW.out.1;clear hacl;go_wp2_with fail
         go_roundg (257-(n+j))
         case measure=>omega
         case rel=>exact⟨(x:Int),_,q2,f',n+j,_,A',c',rfl,rfl,rfl,by omega,by omega,by omega,by omega,by omega,hp7,⟨HX.out,HACL.out⟩,HT4.out⟩
   ·have hcon:Calls Tryz.prog 111 #[.pointer (some ⟨bl,0,none⟩),.int .i64 4] wr fun e w'=>e=.returned (.tuple #[.int .i64 0,.int .i64 4])/\ ∃m,w'=wr.drewN m:=by
     have:=HG.out;simp only[if_neg h4] at this;exact this
    have HC:=Lib.hid hcon;have hTn:T=none:=by
     rw[hTT.out];obtain⟨lf,hlf⟩:∃lf,257-n=lf+1:=⟨257-n-1,by omega⟩
     obtain⟨f',hf'⟩:∃f',f=f'+1:=⟨f-1,by omega⟩
     rw[hlf,hf'];show comb acc (if(Bt.rem s q).length<4 then none else _)=none
     rw[if_pos (by omega)];rfl
    have HTN:=Lib.hid hTn;clear hcon HG hTn hlr;go_wp2_with fail
    refine HC.out.mono ?_;rintro e4 w4 ⟨rfl,m,rfl⟩;have hs4:=H.out.1.drewN m;have HH:=Lib.hid (held_any (wr.drewN m) bf 0 4 hs4.fl);have HS5:=Lib.hid (hs4.held 4);clear hs4;go_wp2_with fail
    refine HH.out.mono ?_;rintro e5 w5 ⟨rfl,rfl⟩;generalize (wr.drewN m).setCell ⟨bf,0,none⟩ (.int .i64 4)=w5 at *
    have hs6:=HS5.out.alloc (.cells #[.int .i64 0,.int .i64 0] 137);have hcf:=HS5.out.fl.cell;have hcf6:=hs6.fl.cell;have HS6:=Lib.hid hs6;clear hs6;go_wp2_with fail
    go_region
    go_wp2_with fail
    go_ret2
    exact⟨.inr ⟨fun l r h=>(by rw[HTN.out] at h;cases h),4,rfl,by decide⟩,frm_of_below HS6.out.drew.bel br none⟩
  ·obtain rfl:n=257:=by omega
   have hTs:T=some (acc,Bt.rem s q):=by
    rw[hTT.out,Nat.sub_self,tg_done];show some (acc++[],Bt.rem s q)=_
    rw[List.append_nil]
   have HTS:=Lib.hid hTs;have hrd:=H.out.1.own.rd0.1;rw[H.out.2] at hrd;have HCK:=Lib.hid (check_any A 257 c acc wr (by omega) hrd);have HS:=Lib.hid H.out.1;have hbr:RdS wr br s p:=(H.out.1.bel.block br hbrl).trans HR.out;have hd0:=hbr.c0;have hd1:=hbr.c1;have hfd0:=hbr.fz 0;have hfd1:=hbr.fz 1;have hl0:=H.out.1.rd.c0;have hl1':=H.out.1.rd.c1;have HBR:=Lib.hid hbr;clear hTs hrd hbr hTT H;generalize hck:checkE acc=ck at *
   have HCE:=Lib.hid hck;clear hck;by_cases hc0:ck=0
   ·subst hc0
    go_wp2_with fail
    refine HCK.out.mono ?_;rintro e4 w4 ⟨rfl,rfl⟩;go_wp2_with fail
    have hown:=(HS.out.own).lower (show w.heap.size<=bf+1 by have:=HS.out.ge;omega);have hob:(Value.slice A 257 c).ownBlock≠some br:=by
     intro e;have:=(World.ownsRow.lt HS.out.own br e).1;have:=HS.out.ge;omega
    go_ret2
    refine⟨.inl ⟨acc,q,_,HTS.out,HCE.out,rfl,own_setCell_far (a:=⟨br,1,none⟩) (own_setCell_far (a:=⟨br,0,none⟩) hown hob _) hob _,rds_set3 HBR.out,hq⟩,((frm_of_below HS.out.bel br none).set 0 _).set 1 _⟩
   ·have hb1:(ck==0)=false:=by rw[beq_eq_false_iff_ne];exact hc0
    have hb2:(ck != 0)=true:=by rw[bne_iff_ne];exact hc0
    have HC0:=Lib.hid hc0;clear hc0;go_wp2_with fail
    refine HCK.out.mono ?_;rintro e4 w4 ⟨rfl,rfl⟩;go_wp2_with fail
    go_ret2
    exact⟨.inr ⟨fun l r h=>(by rw[HTS.out] at h;cases h;rw[HCE.out];exact HC0.out),ck,rfl,HC0.out⟩,frm_of_below HS.out.bel br none⟩
end Tb
end Go.Proofs.YtjligbmickfbdaaGreat
