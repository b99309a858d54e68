/- follow.Next: any places, any name. span: ranges; what two have in common. kmp.Has of nothing: it stands anywhere. -/
import Derived.Test.YtejcdhdfanfkbaaGreatFb15
import Derived.Test.YtejcdhdfanfkbaaGreatFb22
import Derived.Test.YtejcdhdfanfkbaaGreatFb07
import Derived.Deep.RegionHeld3
import Derived.Deep.Cut
import Derived.Deep.CutBlock
namespace Go.Proofs.YtejcdhdfanfkbaaGreat
namespace Fo
open Go.RowKit Rd Dk Vi Tk Sn
open Go.Proofs.YtejcdhdfanfkbaaGreat.Rf
def nxP (l:List Pl) (s:ByteArray):Int:=match l.find? (fun p=>decide (p.s=s)) with
 |none=>1
 |some p=>p.n
theorem nxP_at {l:List Pl} {s:ByteArray} {k:Nat} {p:Pl} (h:l[k]? =some p) (hp:p.s=s) (hn:∀(j:Nat) (q:Pl),j<k->l[j]? =some q->q.s≠s):nxP l s=p.n:=by
 unfold nxP;have:l.find? (fun p=>decide (p.s=s))=some p:=by
  rw[List.find?_eq_some_iff_getElem];obtain⟨hk,e⟩:=List.getElem?_eq_some_iff.1 h;refine⟨decide_eq_true hp,k,hk,e,fun j hj=>?_⟩;have:=hn j l[j] hj (List.getElem?_eq_getElem (by omega));simp[this]
 rw[this]
theorem nxP_no {l:List Pl} {s:ByteArray} (hn:∀(j:Nat) (q:Pl),l[j]? =some q->q.s≠s):nxP l s=1:=by
 unfold nxP;have:l.find? (fun p=>decide (p.s=s))=none:=by
  rw[List.find?_eq_none];intro p hp;obtain⟨j,hj⟩:=List.getElem?_of_mem hp;simp[hn j p hj]
 rw[this]
set_option maxHeartbeats 3200000 in
set_option maxRecDepth 100000 in
theorem next1_any (p:Pl) (s:ByteArray) (b:Nat) (w:World) (hb:Blk w b #[.string s] 9) :
  Calls Tryz.prog 49 #[.agg #[.string p.s,.int .i64 p.n],.pointer (some ⟨b,0,none⟩)] w fun e w'=>e=.returned (.bool (decide (p.s=s)))/\Below w.heap.size w w':=by
 have hB:=ext_alloc w (.cells #[.string p.s,.int .i64 p.n] 82);have k0:=(hb.alloc (.cells #[.string p.s,.int .i64 p.n] 82)).cell 0 (v:=.string s) rfl;have hq:=beqL p.s s (r:=decide (p.s=s)) rfl;clear hb
 go_enter Tryz.func49, Tryz.ntmps49
 go_wp2_with fail
 go_ret
 exact⟨rfl,hB⟩
set_option maxHeartbeats 3200000 in
set_option maxRecDepth 100000 in
theorem index_pl (A:Option Addr) (n c b:Nat) (l:List Pl) (s:ByteArray) (w:World) (hrd:Rd w w.heap.size 2 A n (flS l)) (hn:n<=1000000) (hb:Blk w b #[.string s] 9) :
  Calls Tryz.prog 48 #[.slice A n c,.func (.func 49) #[] #[.pointer (some ⟨b,0,none⟩)]] w fun e w'=>∃x:Int,e=.returned (.int .i64 x)/\(x= -1/\(∀(j:Nat) (q:Pl),l[j]? =some q->q.s≠s)∨ ∃(k:Nat) (p:Pl),x=k/\l[k]? =some p/\p.s=s/\ ∀(j:Nat) (q:Pl),j<k->l[j]? =some q->q.s≠s)/\Below w.heap.size w w':=by
 have hln:=rdS_len hrd;have HR:=Lib.hid hrd;have HLN:=Lib.hid hln;have HC:=Lib.hid (fun(wx:World) (hx:Below w.heap.size w wx) (p:Pl)=>next1_any p s b wx (hb.ext hx));clear hrd hln hb
 go_enter Tryz.func48, Tryz.ntmps48
 go_wp2_with fail
 go_loopw [8] (fun v wr=>∃k:Nat,v=.int .i64 k/\k<=n/\Hid (Below w.heap.size w wr/\ ∀(j:Nat) (q:Pl),j<k->l[j]? =some q->q.s≠s)) (fun v _=>n-(intOf v).toNat)
 case atStart=>exact⟨0,by go_num,by omega,Lib.hid ⟨Below.refl _ _,fun j r h=>absurd h (by omega)⟩⟩
 case round =>
  obtain⟨k,rfl,hk,HX⟩:=hrel;by_cases hkn:k<n
  ·obtain⟨ad,p,rfl,hbk,hx,e0,ej⟩:=sl_at (HR.out.below HX.out.1) hkn
   have c0:wr.cell? (ad.add (k*2))=some (.string p.s):=e0;have c1:wr.cell? ⟨(ad.add (k*2)).block,(ad.add (k*2)).off+1,none⟩=some (.int .i64 p.n):=ej 0 (by decide);clear e0 ej;have HM:=Lib.hid (HC.out wr HX.out.1 p);by_cases hps:p.s=s
   ·rw[decide_eq_true hps] at HM
    have HF:=Lib.hid (And.intro hx hps);clear hx hbk hps;go_wp2_with (go_at_call 49;refine HM.out.mono ?_;rintro e1 w1 ⟨rfl,hb1⟩;have HB1:=Lib.hid (HX.out.1.trans (hb1.mono HX.out.1.size));clear hb1)
    go_ret
    exact⟨k,rfl,.inr ⟨k,p,rfl,HF.out.1,HF.out.2,HX.out.2⟩,HB1.out⟩
   ·rw[decide_eq_false hps] at HM
    have HN:=Lib.hid (show ∀(j:Nat) (q:Pl),j<k+1->l[j]? =some q->q.s≠s from fun j q hj hq=>by
     rcases Nat.lt_or_ge j k with h|h
     ·exact HX.out.2 j q h hq
     ·obtain rfl:j=k:=by omega
      rw[hx] at hq;cases hq;exact hps)
    clear hx hbk hps;go_wp2_with (go_at_call 49;refine HM.out.mono ?_;rintro e1 w1 ⟨rfl,hb1⟩;have HB1:=Lib.hid (HX.out.1.trans (hb1.mono HX.out.1.size));clear hb1)
    go_roundw
    case rel=>exact⟨k+1,by go_num,by omega,Lib.hid ⟨HB1.out,HN.out⟩⟩
    case measure=>simp[intOf];omega
  ·obtain rfl:k=n:=by omega
   have HF:=Lib.hid (show ∀(j:Nat) (q:Pl),l[j]? =some q->q.s≠s from fun j q hq=>HX.out.2 j q (by have:=(List.getElem?_eq_some_iff.1 hq).1;have:=HLN.out;omega) hq);have HB:=Lib.hid HX.out.1;clear HX;go_wp2_with fail
   go_ret
   exact⟨-1,rfl,.inl ⟨rfl,HF.out⟩,HB.out⟩
set_option maxHeartbeats 3200000 in
set_option maxRecDepth 100000 in
theorem next_any (A:Option Addr) (n c:Nat) (l:List Pl) (s:ByteArray) (w:World) (hrd:Rd w w.heap.size 2 A n (flS l)) (hn:n<=1000000) :
  Calls Tryz.prog 18 #[.slice A n c,.string s] w fun e w'=>e=.returned (.int .i64 (nxP l s))/\Below w.heap.size w w':=by
 have hln:=rdS_len hrd;have HB0:=Lib.hid (ext_alloc w (.cells #[.string s] 9));have HI:=Lib.hid (index_pl A n c w.heap.size l s _ ((hrd.below HB0.out).more HB0.out.size) hn (Blk.new w #[.string s] 9));have HR:=Lib.hid (hrd.below HB0.out);clear hrd
 go_enter Tryz.func18, Tryz.ntmps18
 go_upto_region 1 with fail
 generalize w.alloc (.cells #[.string s] 9)=w0 at *
 go_upto_region 2 with (go_at_call 48;refine HI.out.mono ?_;rintro e1 w1 ⟨x,rfl,hx,hb1⟩;have HX:=Lib.hid hx;have HB1:=Lib.hid (HB0.out.trans (hb1.mono HB0.out.size));have HR1:=Lib.hid (HR.out.below (hb1.mono HB0.out.size));clear hx hb1)
 rcases HX.out with ⟨rfl,hno⟩|⟨k,p,rfl,hk,hp,hno⟩
 ·have HN:=Lib.hid (nxP_no hno)
  clear hno HX;go_wp2_with fail
  go_ret
  exact⟨by rw[HN.out];rfl,HB1.out⟩
 ·have HN:=Lib.hid (nxP_at hk hp hno)
  have hkn:k<n:=by have:=(List.getElem?_eq_some_iff.1 hk).1;omega
  obtain⟨ad,q,rfl,hbk,hx,e0,ej⟩:=sl_at HR1.out hkn;rw[hk] at hx;cases hx;have c1:w1.cell? ⟨(ad.add (k*2)).block,(ad.add (k*2)).off+1,none⟩=some (.int .i64 p.n):=ej 0 (by decide);have h1: ¬ (k:Int)<0:=by omega
  have h2:(0:Int)<=(k:Int):=by omega
  have h3:(k:Int)<(n:Int):=by omega
  clear hno HX hk hp e0 ej hbk;go_wp2_with fail
  go_ret
  exact⟨by rw[HN.out];rfl,HB1.out⟩
end Fo
end Go.Proofs.YtejcdhdfanfkbaaGreat
namespace Go.Proofs.YtejcdhdfanfkbaaGreat
namespace Gq
open Go.RowKit Hd Rd
theorem ra_info:(Tryz.prog.info? 166).map (·.size)=some 2:=by kernel_rfl
theorem has_any (a b n:Int) (w:World):Calls Tryz.prog 249 #[.agg #[.int .i64 a,.int .i64 b],.int .i64 n] w fun e w'=>e=.returned (.bool (decide (a<=n)&&decide (n<=b)))/\Below w.heap.size w w':=by
 have HB:=Lib.hid (ext_alloc w (.cells #[.int .i64 a,.int .i64 b] 166))
 go_enter Tryz.func249, Tryz.ntmps249
 go_wp2_with fail
 all_goals
  go_ret
  refine⟨ret_bool ?_,HB.out⟩;rw[Bool.eq_iff_iff];simp only[Bool.and_eq_true,decide_eq_true_eq,Bool.false_eq_true,false_iff,true_iff] at *
  omega
theorem empty_any (a b:Int) (w:World):Calls Tryz.prog 286 #[.agg #[.int .i64 a,.int .i64 b]] w fun e w'=>e=.returned (.bool (decide (b<a)))/\Below w.heap.size w w':=by
 have HB:=Lib.hid (ext_alloc w (.cells #[.int .i64 a,.int .i64 b] 166))
 go_enter Tryz.func286, Tryz.ntmps286
 go_wp2_with fail
 go_ret
 exact⟨rfl,HB.out⟩
theorem none_any (w:World):Calls Tryz.prog 334 #[] w fun e w'=>e=.returned (.agg #[.int .i64 1,.int .i64 0])/\Below w.heap.size w w':=by
 have HR:=Lib.hid (Blk.new w #[.int .i64 1,.int .i64 0] 166);have HB:=Lib.hid (ext_alloc w (.cells #[.int .i64 1,.int .i64 0] 166))
 go_enter Tryz.func334, Tryz.ntmps334
 go_wp2_with fail
 refine bodyPost_ret (v:=.agg #[.int .i64 1,.int .i64 0]) (by exact results_cell1 rfl rfl HR.out Tryz.underlying166 rfl ra_info) (by exact rfl) ?_;exact⟨rfl,HB.out⟩
theorem pa_info:(Tryz.prog.info? 402).map (·.size)=some 2:=by kernel_rfl
theorem narrow_any (a b x y:Int) (w:World):Calls Tryz.prog 310 #[.agg #[.int .i64 a,.int .i64 b],.agg #[.int .i64 x,.int .i64 y]] w fun e w'=>e=.returned (.agg #[.int .i64 (max a x),.int .i64 (min b y)])/\Below w.heap.size w w':=by
 have HB:=Lib.hid (((ext_alloc w (.cells #[.int .i64 a,.int .i64 b] 402)).trans ((ext_alloc _ (.cells #[.int .i64 x,.int .i64 y] 166)).mono (by simp))).trans ((ext_alloc _ (.cells #[.int .i64 (max a x),.int .i64 (min b y)] 402)).mono (by simp;omega)));have HR:=Lib.hid (show Blk (((w.alloc (.cells #[.int .i64 a,.int .i64 b] 402)).alloc (.cells #[.int .i64 x,.int .i64 y] 166)).alloc (.cells #[.int .i64 (max a x),.int .i64 (min b y)] 402)) (w.heap.size+1+1) #[.int .i64 (max a x),.int .i64 (min b y)] 402 from by
  have:=Blk.new ((w.alloc (.cells #[.int .i64 a,.int .i64 b] 402)).alloc (.cells #[.int .i64 x,.int .i64 y] 166)) #[.int .i64 (max a x),.int .i64 (min b y)] 402;simpa using this)
 go_enter Tryz.func310, Tryz.ntmps310
 go_wp2_with fail
 refine bodyPost_ret (v:=.agg #[.int .i64 (max a x),.int .i64 (min b y)]) (by exact results_cell1 rfl rfl HR.out Tryz.underlying402 rfl pa_info) (by exact rfl) ?_;exact⟨rfl,HB.out⟩
def comL (a b x y:Int):Int:=if min b y<max a x then 1 else max a x
def comH (a b x y:Int):Int:=if min b y<max a x then 0 else min b y
structure FoI (w:World) (b0 b1 g:Nat) (a b x y:Int) (t:TypeId) (k:Nat) (wr:World):Prop where
 B:Below b0 w wr
 R:Blk wr b0 #[.int .i64 0,.int .i64 0] 166
 P:k=0/\Blk wr b1 #[.int .i64 a,.int .i64 b] 402∨k=1/\Blk wr b1 #[.int .i64 (max a x),.int .i64 (min b y)] 402
 G:Blk wr g #[.int .i64 a,.int .i64 b,.int .i64 x,.int .i64 y] t
 L:b0<=b1
 N:g≠b1
set_option maxHeartbeats 1600000 in
set_option maxRecDepth 100000 in
theorem fold_two (a b x y:Int) (g c:Nat) (t:TypeId) (w:World) (hg:Blk w g #[.int .i64 a,.int .i64 b,.int .i64 x,.int .i64 y] t) :
  Calls Tryz.prog 309 #[.slice (some ⟨g,0,none⟩) 2 2,.func (.func 310) #[] #[]] w fun e w'=>e=.returned (.agg #[.int .i64 (comL a b x y),.int .i64 (comH a b x y)])/\Below w.heap.size w w':=by
 have mixed:Tryz.prog.follows .mixedOrders=true:=by kernel_rfl
 have HNA:=Lib.hid (fun wx=>narrow_any a b x y wx);have HEM:=Lib.hid (fun wx=>empty_any (max a x) (min b y) wx);have HNO:=Lib.hid (fun wx=>none_any wx)
 go_enter Tryz.func309, Tryz.ntmps309
 go_upto_region 1 with fail
 have HB0:=Lib.hid (ext_alloc w (.cells #[.int .i64 0,.int .i64 0] 166));have HR0:=Lib.hid (Blk.new w #[.int .i64 0,.int .i64 0] 166);have HG0:=Lib.hid (hg.alloc (.cells #[.int .i64 0,.int .i64 0] 166));clear hg;generalize w.alloc (.cells #[.int .i64 0,.int .i64 0] 166)=w0 at *
 generalize hb0:w.heap.size=b0 at *
 have k0:=HG0.out.cell 0 (v:=.int .i64 a) rfl;have k1:=HG0.out.cell 1 (v:=.int .i64 b) rfl;go_upto_region 5 with fail
 have HB1:=Lib.hid (HB0.out.trans ((ext_alloc w0 (.cells #[.int .i64 a,.int .i64 b] 402)).mono (hb0▸HB0.out.size)));have HR1:=Lib.hid (HR0.out.alloc (.cells #[.int .i64 a,.int .i64 b] 402));have HP1:=Lib.hid (Blk.new w0 #[.int .i64 a,.int .i64 b] 402);have HG1:=Lib.hid (HG0.out.alloc (.cells #[.int .i64 a,.int .i64 b] 402));have hne:b0<w0.heap.size:=HR0.out.lt;have hgb:g≠w0.heap.size:=by have:=HG0.out.lt;omega
 clear k0 k1 HB0 HR0 HG0;generalize w0.alloc (.cells #[.int .i64 a,.int .i64 b] 402)=w1 at *
 generalize w0.heap.size=b1 at *
 go_loopw [18] (fun v wr=>∃k:Nat,v=.int .i64 (k:Int)/\k<=1/\Hid (FoI w b0 b1 g a b x y t k wr)) (fun v _=>1-(intOf v).toNat)
 case atStart=>exact⟨0,by go_num,by omega,Lib.hid ⟨HB1.out,HR1.out,.inl ⟨rfl,HP1.out⟩,HG1.out,by omega,hgb⟩⟩
 case round =>
  clear HB1 HR1 HP1 HG1;obtain⟨k,rfl,hk,HX⟩:=hrel;by_cases hkn:k=0
  ·subst hkn
   obtain⟨B,R,P,G,L,N⟩:=HX.out;obtain⟨-,P⟩|⟨h,-⟩:=P
   rotate_left
   ·cases h
   have k2:=G.cell 2 (v:=.int .i64 x) rfl;have k3:=G.cell 3 (v:=.int .i64 y) rfl;have hB:=B.trans ((ext_alloc wr (.cells #[.int .i64 x,.int .i64 y] 166)).mono (hb0▸B.size));have hP:=P.alloc (.cells #[.int .i64 x,.int .i64 y] 166);have hR:=R.alloc (.cells #[.int .i64 x,.int .i64 y] 166);have hG:=G.alloc (.cells #[.int .i64 x,.int .i64 y] 166);have q0:=hP.cell 0 (v:=.int .i64 a) rfl;have q1:=hP.cell 1 (v:=.int .i64 b) rfl;have HH:=Lib.hid (And.intro hB (And.intro hP (And.intro hR hG)));clear B R P G hB hP hR hG HX;go_wp2_with (first
    |(go_at_call 310;refine(HNA.out _).mono ?_;rintro e1 w3 ⟨rfl,hb3⟩;have P3:=HH.out.2.1.ext hb3;have z0:=P3.cell 0 rfl;have z1:=P3.cell 1 rfl;have f0:=P3.fz 0;have f1:=P3.fz 1;have H3:=Lib.hid (And.intro (HH.out.1.trans (hb3.mono (hb0▸HH.out.1.size))) (And.intro P3 (And.intro (HH.out.2.2.1.ext hb3) (HH.out.2.2.2.ext hb3))));clear hb3 P3))
   go_roundw
   ·exact⟨1,by first|rfl|go_num,by omega,Lib.hid ⟨(H3.out.1.setCell (p:=⟨b1,0,none⟩) L _).setCell (p:=⟨b1,1,none⟩) L _,(H3.out.2.2.1.setCell (by omega) _).setCell (by omega) _,.inr ⟨rfl,(H3.out.2.1.put 0 _).put 1 _⟩,(H3.out.2.2.2.setCell N _).setCell N _,L,N⟩⟩
   ·simp[intOf]
  ·obtain rfl:k=1:=by omega
   obtain⟨B,R,P,G,L,N⟩:=HX.out;obtain⟨h,-⟩|⟨-,P⟩:=P
   ·cases h
   have p0:=P.cell 0 (v:=.int .i64 (max a x)) rfl;have p1:=P.cell 1 (v:=.int .i64 (min b y)) rfl;have HI:=Lib.hid (And.intro B (And.intro R P));have hne1:b0≠b1:=by omega
   clear B R P G HX;by_cases hm:min b y<max a x
   ·have hd:decide (min b y<max a x)=true:=decide_eq_true hm
    rw[hd] at HEM;have HC:=Lib.hid (show comL a b x y=1/\comH a b x y=0 from⟨if_pos hm,if_pos hm⟩);clear hd hm;go_wp2_with (first
     |(go_at_call 286;refine(HEM.out _).mono ?_;rintro e1 w3 ⟨rfl,hb3⟩;have H3:=Lib.hid (And.intro (HI.out.1.trans (hb3.mono (hb0▸HI.out.1.size))) (And.intro (HI.out.2.1.ext hb3) (HI.out.2.2.ext hb3)));clear hb3)
     |(go_at_call 334;refine(HNO.out _).mono ?_;rintro e4 w4 ⟨rfl,hb4⟩;have R4:=H3.out.2.1.ext hb4;have z0:=R4.cell 0 rfl;have z1:=R4.cell 1 rfl;have f0:=R4.fz 0;have f1:=R4.fz 1;have H4:=Lib.hid (And.intro (H3.out.1.trans (hb4.mono (hb0▸H3.out.1.size))) R4);clear hb4 R4))
    refine bodyPost_ret (v:=.agg #[.int .i64 1,.int .i64 0]) (by exact results_cell1 rfl rfl ((H4.out.2.put 0 (.int .i64 1)).put 1 (.int .i64 0)) Tryz.underlying166 rfl ra_info) (by exact rfl) ?_;exact⟨by rw[HC.out.1,HC.out.2],by rw[hb0];exact(H4.out.1.setCell (p:=⟨b0,0,none⟩) (Nat.le_refl _) _).setCell (p:=⟨b0,1,none⟩) (Nat.le_refl _) _⟩
   ·have hd:decide (min b y<max a x)=false:=decide_eq_false hm
    rw[hd] at HEM;have HC:=Lib.hid (show comL a b x y=max a x/\comH a b x y=min b y from⟨if_neg hm,if_neg hm⟩);clear hd hm;go_wp2_with (first
     |(go_at_call 286;refine(HEM.out _).mono ?_;rintro e1 w3 ⟨rfl,hb3⟩;have P3:=HI.out.2.2.ext hb3;have R3:=HI.out.2.1.ext hb3;have p0:=P3.cell 0 (v:=.int .i64 (max a x)) rfl;have p1:=P3.cell 1 (v:=.int .i64 (min b y)) rfl;have z0:=R3.cell 0 rfl;have z1:=R3.cell 1 rfl;have f0:=R3.fz 0;have f1:=R3.fz 1;have H3:=Lib.hid (And.intro (HI.out.1.trans (hb3.mono (hb0▸HI.out.1.size))) R3);clear hb3 P3 R3))
    refine bodyPost_ret (v:=.agg #[.int .i64 (max a x),.int .i64 (min b y)]) (by exact results_cell1 rfl rfl ((H3.out.2.put 0 (.int .i64 (max a x))).put 1 (.int .i64 (min b y))) Tryz.underlying166 rfl ra_info) (by exact rfl) ?_;exact⟨by rw[HC.out.1,HC.out.2],by rw[hb0];exact(H3.out.1.setCell (p:=⟨b0,0,none⟩) (Nat.le_refl _) _).setCell (p:=⟨b0,1,none⟩) (Nat.le_refl _) _⟩
set_option maxHeartbeats 1600000 in
theorem both_two (a b x y:Int) (g c:Nat) (t:TypeId) (w:World) (hg:Blk w g #[.int .i64 a,.int .i64 b,.int .i64 x,.int .i64 y] t) :
  Calls Tryz.prog 287 #[.slice (some ⟨g,0,none⟩) 2 2] w fun e w'=>e=.returned (.agg #[.int .i64 (comL a b x y),.int .i64 (comH a b x y)])/\Below w.heap.size w w':=by
 have HFO:=Lib.hid (fold_two a b x y g c t _ (hg.alloc (.cells #[.int .i64 0,.int .i64 0] 166)));have HB0:=Lib.hid (ext_alloc w (.cells #[.int .i64 0,.int .i64 0] 166));have HR0:=Lib.hid (Blk.new w #[.int .i64 0,.int .i64 0] 166);clear hg;generalize comL a b x y=L at *
 generalize comH a b x y=H at *
 go_enter Tryz.func287, Tryz.ntmps287
 go_wp2_with (go_at_call 309;refine HFO.out.mono ?_;rintro e1 w1 ⟨rfl,hb1⟩;have R1:=HR0.out.ext hb1;have z0:=R1.cell 0 rfl;have z1:=R1.cell 1 rfl;have f0:=R1.fz 0;have f1:=R1.fz 1;have H1:=Lib.hid (And.intro (HB0.out.trans (hb1.mono HB0.out.size)) R1);clear hb1 R1)
 refine bodyPost_ret (v:=.agg #[.int .i64 L,.int .i64 H]) (by exact results_cell1 rfl rfl ((H1.out.2.put 0 (.int .i64 L)).put 1 (.int .i64 H)) Tryz.underlying166 rfl ra_info) (by exact rfl) ?_;exact⟨rfl,(H1.out.1.setCell (p:=⟨w.heap.size,0,none⟩) (Nat.le_refl _) _).setCell (p:=⟨w.heap.size,1,none⟩) (Nat.le_refl _) _⟩
def meetB (a b x y:Int):Bool:= !decide (comH a b x y<comL a b x y)
set_option maxHeartbeats 1600000 in
theorem meets_any (a b x y:Int) (w:World):Calls Tryz.prog 243 #[.agg #[.int .i64 a,.int .i64 b],.agg #[.int .i64 x,.int .i64 y]] w fun e w'=>e=.returned (.bool (meetB a b x y))/\Below w.heap.size w w':=by
 have mixed:Tryz.prog.follows .mixedOrders=true:=by kernel_rfl
 have HBO:=Lib.hid (fun(wx:World)=>both_two a b x y wx.heap.size 2 166 (wx.alloc (.cells #[.int .i64 a,.int .i64 b,.int .i64 x,.int .i64 y] 166)) (Blk.new wx _ _));have HEM:=Lib.hid (fun wx=>empty_any (comL a b x y) (comH a b x y) wx);have HM:=Lib.hid (show(!decide (comH a b x y<comL a b x y))=meetB a b x y from rfl);generalize comL a b x y=L at *
 generalize comH a b x y=H at *
 have hb0:=(ext_alloc w (.cells #[.int .i64 a,.int .i64 b] 166)).trans ((ext_alloc _ (.cells #[.int .i64 x,.int .i64 y] 166)).mono (by simp))
 go_enter Tryz.func243, Tryz.ntmps243
 go_upto_region 1 with fail
 have hx:=(Blk.new w #[.int .i64 a,.int .i64 b] 166).alloc (.cells #[.int .i64 x,.int .i64 y] 166);have hy:Blk ((w.alloc (.cells #[.int .i64 a,.int .i64 b] 166)).alloc (.cells #[.int .i64 x,.int .i64 y] 166)) (w.heap.size+1) #[.int .i64 x,.int .i64 y] 166:=by simpa using Blk.new (w.alloc (.cells #[.int .i64 a,.int .i64 b] 166)) #[.int .i64 x,.int .i64 y] 166
 have k0:=hx.cell 0 (v:=.int .i64 a) rfl;have k1:=hx.cell 1 (v:=.int .i64 b) rfl;have k2:=hy.cell 0 (v:=.int .i64 x) rfl;have k3:=hy.cell 1 (v:=.int .i64 y) rfl;have HB0:=Lib.hid hb0;clear hx hy hb0;generalize (w.alloc (.cells #[.int .i64 a,.int .i64 b] 166)).alloc (.cells #[.int .i64 x,.int .i64 y] 166)=w2 at *
 go_wp2_with (first
  |(go_at_call 287;refine(HBO.out _).mono ?_;rintro e1 w3 ⟨rfl,hb3⟩;have H3:=Lib.hid (HB0.out.trans (((ext_alloc w2 _).trans (hb3.mono (by simp))).mono HB0.out.size));clear hb3)
  |(go_at_call 286;refine(HEM.out _).mono ?_;rintro e4 w4 ⟨rfl,hb4⟩;have H4:=Lib.hid (H3.out.trans (hb4.mono H3.out.size));clear hb4))
 go_ret
 exact⟨by rw[<-HM.out];rfl,H4.out⟩
def maxI:Int:=9223372036854775807
set_option maxHeartbeats 1600000 in
theorem trim_any (a b x:Int) (w:World):Calls Tryz.prog 248 #[.agg #[.int .i64 a,.int .i64 b],.int .i64 x] w fun e w'=>e=.returned (.agg #[.int .i64 (comL a b x maxI),.int .i64 (comH a b x maxI)])/\Below w.heap.size w w':=by
 have mixed:Tryz.prog.follows .mixedOrders=true:=by kernel_rfl
 have HBO:=Lib.hid (fun(wx:World)=>both_two a b x maxI wx.heap.size 2 166 (wx.alloc (.cells #[.int .i64 a,.int .i64 b,.int .i64 x,.int .i64 maxI] 166)) (Blk.new wx _ _));have hmx:(9223372036854775807:Int)=maxI:=rfl;generalize comL a b x maxI=L at *
 generalize comH a b x maxI=H at *
 rw[<-hmx] at HBO;clear hmx;have hb0:=(ext_alloc w (.cells #[.int .i64 a,.int .i64 b] 166)).trans ((ext_alloc _ (.cells #[.int .i64 0,.int .i64 0] 166)).mono (by simp))
 go_enter Tryz.func248, Tryz.ntmps248
 go_upto_region 1 with fail
 have hx:=(Blk.new w #[.int .i64 a,.int .i64 b] 166).alloc (.cells #[.int .i64 0,.int .i64 0] 166);have HR0:=Lib.hid (show Blk ((w.alloc (.cells #[.int .i64 a,.int .i64 b] 166)).alloc (.cells #[.int .i64 0,.int .i64 0] 166)) (w.heap.size+1) #[.int .i64 0,.int .i64 0] 166 from by simpa using Blk.new (w.alloc (.cells #[.int .i64 a,.int .i64 b] 166)) #[.int .i64 0,.int .i64 0] 166);have k0:=hx.cell 0 (v:=.int .i64 a) rfl;have k1:=hx.cell 1 (v:=.int .i64 b) rfl;have HB0:=Lib.hid hb0;clear hx hb0;generalize (w.alloc (.cells #[.int .i64 a,.int .i64 b] 166)).alloc (.cells #[.int .i64 0,.int .i64 0] 166)=w2 at *
 go_wp2_with (first
  |(go_at_call 287;refine(HBO.out _).mono ?_;rintro e1 w3 ⟨rfl,hb3⟩;have R3:=(HR0.out.alloc _).ext hb3;have z0:=R3.cell 0 rfl;have z1:=R3.cell 1 rfl;have f0:=R3.fz 0;have f1:=R3.fz 1;have H3:=Lib.hid (And.intro (HB0.out.trans (((ext_alloc w2 _).trans (hb3.mono (by simp))).mono HB0.out.size)) R3);clear hb3 R3))
 refine bodyPost_ret (v:=.agg #[.int .i64 L,.int .i64 H]) (by exact results_cell1 rfl rfl ((H3.out.2.put 0 (.int .i64 L)).put 1 (.int .i64 H)) Tryz.underlying166 rfl ra_info) (by exact rfl) ?_;exact⟨rfl,(H3.out.1.setCell (p:=⟨w.heap.size+1,0,none⟩) (Nat.le_succ _) _).setCell (p:=⟨w.heap.size+1,1,none⟩) (Nat.le_succ _) _⟩
end Gq
end Go.Proofs.YtejcdhdfanfkbaaGreat
namespace Go.Proofs.YtejcdhdfanfkbaaGreat
namespace Gq
open Go.RowKit Hd Rd
set_option maxHeartbeats 1600000 in
set_option maxRecDepth 100000 in
theorem fail_nil (w:World):Calls Tryz.prog 335 #[.string ⟨#[]⟩] w fun e w'=>(∃v,e=.returned v)/\Below w.heap.size w w':=by
 have hmk:∀w,(Instr.makeSlice 47 (.int .i64 0) (.int .i64 0)).run Tryz.prog w=.ok (.slice (some ⟨w.heap.size,0,none⟩) 0 0) (w.alloc (.cells #[] 3)):=fun _=>by kernel_rfl
 go_enter Tryz.func335, Tryz.ntmps335
 go_wp2_with fail
 go_loopw [4] (fun v wr=>v=.int .i64 1/\wr=w.alloc (.cells #[] 3)) (fun v _=>0)
 case atStart=>exact⟨rfl,rfl⟩
 case round =>
  obtain⟨rfl,rfl⟩:=hrel;go_wp2_with fail
  go_ret
  exact⟨⟨_,rfl⟩,ext_alloc _ _⟩
set_option maxHeartbeats 1600000 in
set_option maxRecDepth 100000 in
theorem find1_any (b1 b2:Nat) (n:Int) (w:World) (h1:Blk w b1 #[.int .i64 0] 3) (h2:Blk w b2 #[.bool false] 4) (hne:b1≠b2) :
  Calls Tryz.prog 312 #[.int .i64 n,.pointer (some ⟨b1,0,none⟩),.pointer (some ⟨b2,0,none⟩)] w fun e w'=>e=.returned (.bool false)/\w'=(w.setCell ⟨b1,0,none⟩ (.int .i64 n)).setCell ⟨b2,0,none⟩ (.bool true):=by
 have k1:=h1.cell 0 (v:=.int .i64 0) rfl;have f1:=h1.fz 0;have h3:=h2.setCell (k:=b1) (j:=0) (fun e=>hne e.symm) (.int .i64 n);have k2:=h3.cell 0 (v:=.bool false) rfl;have f2:=h3.fz 0
 go_enter Tryz.func312, Tryz.ntmps312
 go_wp2_with fail
 go_ret
 exact⟨rfl,rfl⟩
set_option maxHeartbeats 1600000 in
set_option maxRecDepth 100000 in
theorem each_nil (s:ByteArray) (b1 b2:Nat) (w0 w:World) (hb:Below w0.heap.size w0 w) (h1:Blk w b1 #[.int .i64 0] 3) (h2:Blk w b2 #[.bool false] 4) (hne:b1≠b2) (l1:w0.heap.size<=b1) (l2:w0.heap.size<=b2) :
  Calls Tryz.prog 311 #[.string s,.string ⟨#[]⟩,.int .i64 0,.func (.func 312) #[] #[.pointer (some ⟨b1,0,none⟩),.pointer (some ⟨b2,0,none⟩)]] w fun e w'=>(∃v,e=.returned v)/\Below w0.heap.size w0 w'/\w'.cell? ⟨b1,0,none⟩=some (.int .i64 0)/\w'.cell? ⟨b2,0,none⟩=some (.bool true):=by
 have mixed:Tryz.prog.follows .mixedOrders=true:=by kernel_rfl
 have HFA:=Lib.hid (fail_nil w);have HF1:=Lib.hid (fun wx (hb:Below w.heap.size w wx)=>find1_any b1 b2 0 wx (h1.ext hb) (h2.ext hb) hne);have HD:=Lib.hid (show ∀wx,Below w.heap.size w wx->Below w0.heap.size w0 ((wx.setCell ⟨b1,0,none⟩ (.int .i64 0)).setCell ⟨b2,0,none⟩ (.bool true))/\((wx.setCell ⟨b1,0,none⟩ (.int .i64 0)).setCell ⟨b2,0,none⟩ (.bool true)).cell? ⟨b1,0,none⟩=some (.int .i64 0)/\((wx.setCell ⟨b1,0,none⟩ (.int .i64 0)).setCell ⟨b2,0,none⟩ (.bool true)).cell? ⟨b2,0,none⟩=some (.bool true) from fun wx hx =>
  ⟨((hb.trans (hx.mono hb.size)).setCell (p:=⟨b1,0,none⟩) l1 _).setCell (p:=⟨b2,0,none⟩) l2 _,(((h1.ext hx).put 0 (.int .i64 0)).setCell hne _).cell 0 rfl,(((h2.ext hx).setCell (k:=b1) (j:=0) (fun e=>hne e.symm) _).put 0 _).cell 0 rfl⟩)
 have hs0: ¬ (0:Int)>(s.size:Int):=by omega
 clear hb h1 h2 hne l1 l2
 go_enter Tryz.func311, Tryz.ntmps311
 go_wp2_with (first
  |(go_at_call 335;refine HFA.out.mono ?_;rintro e1 w1 ⟨⟨v1,rfl⟩,hb1⟩;have HB1:=Lib.hid hb1;clear hb1)
  |(go_at_call 312;refine(HF1.out _ HB1.out).mono ?_;rintro e2 w2 ⟨rfl,rfl⟩))
 refine bodyPost_ret (results_none rfl _ _ _) rfl ?_;exact⟨⟨_,rfl⟩,HD.out _ HB1.out⟩
set_option maxHeartbeats 1600000 in
set_option maxRecDepth 100000 in
theorem find_nil (s:ByteArray) (w:World):Calls Tryz.prog 290 #[.string s,.string ⟨#[]⟩,.int .i64 0] w fun e w'=>e=.returned (.tuple #[.int .i64 0,.bool true])/\Below w.heap.size w w':=by
 have mixed:Tryz.prog.follows .mixedOrders=true:=by kernel_rfl
 have HEA:=Lib.hid (each_nil s w.heap.size (w.heap.size+1) w ((w.alloc (.cells #[.int .i64 0] 3)).alloc (.cells #[.bool false] 4)) ((ext_alloc w _).trans ((ext_alloc _ _).mono (by simp))) ((Blk.new w #[.int .i64 0] 3).alloc _) (by simpa using Blk.new (w.alloc (.cells #[.int .i64 0] 3)) #[.bool false] 4) (by omega) (Nat.le_refl _) (by omega))
 go_enter Tryz.func290, Tryz.ntmps290
 go_wp2_with (go_at_call 311;refine HEA.out.mono ?_;rintro e1 w1 ⟨⟨v1,rfl⟩,hb1,k1,k2⟩;have HB1:=Lib.hid hb1;clear hb1)
 go_region
 go_wp2_with fail
 go_ret2
 exact⟨rfl,HB1.out.drew⟩
set_option maxHeartbeats 1600000 in
theorem has_nil (s:ByteArray) (w:World):Calls Tryz.prog 250 #[.string s,.string ⟨#[]⟩] w fun e w'=>e=.returned (.bool true)/\Below w.heap.size w w':=by
 have HFI:=Lib.hid (fun wx=>find_nil s wx)
 go_enter Tryz.func250, Tryz.ntmps250
 go_wp2_with (go_at_call 290;refine(HFI.out _).mono ?_;rintro e1 w1 ⟨rfl,hb1⟩;have HB1:=Lib.hid hb1;clear hb1)
 go_ret
 exact⟨rfl,HB1.out⟩
end Gq
end Go.Proofs.YtejcdhdfanfkbaaGreat
