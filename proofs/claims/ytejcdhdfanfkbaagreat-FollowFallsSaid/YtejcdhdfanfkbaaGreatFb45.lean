/- open.Copy. log.of of a fresh log. -/
import Derived.Test.YtejcdhdfanfkbaaGreatFb34
import Derived.Test.YtejcdhdfanfkbaaGreatFb42
import Derived.Test.YtejcdhdfanfkbaaGreatFb10
import Derived.Deep.RegionHeld3
namespace Go.Proofs.YtejcdhdfanfkbaaGreat
namespace Op
open Go.RowKit Hd Rd Vi Dk
theorem one_set {c:Array Value} (h:c.all (·.oneCell')=true) (k:Nat) (v:Value) (hv:v.oneCell'=true):(c.set! k v).all (·.oneCell')=true:=by
 rw[Array.all_eq_true] at h ⊢;intro i hi;have hi2:i<c.size:=by simpa using hi
 by_cases hk:k=i
 ·subst hk
  have e:(c.set! k v)[k]? =some v:=by simp[hi2]
  rw[Array.getElem?_eq_getElem hi] at e;rw[Option.some.inj e];exact hv
 ·have e:(c.set! k v)[i]? =c[i]? :=by rw[Array.set!_eq_setIfInBounds,Array.getElem?_setIfInBounds_ne hk]
  rw[Array.getElem?_eq_getElem hi,Array.getElem?_eq_getElem hi2] at e;rw[Option.some.inj e];exact h i hi2
theorem own_ne {w:World} {B:Nat} {e:TypeId} {k n g:Nat} {v:Value} {l:List Value} (h:w.ownsRow B e k v n l) (hg:g<B):v.ownBlock≠some g:=fun he=>absurd (h.lt g he).1 (by omega)
theorem own_row {w:World} {B C g:Nat} {e:TypeId} {k n:Nat} {v:Value} {l:List Value} (h:w.ownsRow B e k v n l) (hg:g<B) (hC:C<=B) (c:Array Value):(w.setRow g c).ownsRow C e k v n l :=
 own_lower (own_block h (fun q hq=>setRow_other w g q c (fun e=>own_ne h hg (by rw[<-e];exact hq)))) hC
theorem copy_fin {w w2 wl:World} {c z:Array Value} {t t1 t2 t3:TypeId} {x y u:Value} {n1 n2 n3 B1 B2 B3:Nat} {l1 l2 l3:List Value} (hk:Blk w2 w.heap.size c t) (hn:Blk w2 (w.heap.size+1) z t) (hb2:Below w.heap.size w w2) (hbl:Below w2.heap.size w2 wl)
  (hx:w2.ownsRow B1 t1 9 x n1 l1) (h1:w.heap.size+2<=B1) (hy:wl.ownsRow B2 t2 7 y n2 l2) (h2:w.heap.size+2<=B2) (hu:wl.ownsRow B3 t3 3 u n3 l3) (h3:w.heap.size+2<=B3) :
  Blk ((wl.setCell ⟨w.heap.size,12,none⟩ y).setCell ⟨w.heap.size,16,none⟩ u) w.heap.size ((c.set! 12 y).set! 16 u) t/\Blk ((wl.setCell ⟨w.heap.size,12,none⟩ y).setCell ⟨w.heap.size,16,none⟩ u) (w.heap.size+1) z t
   /\ Below w.heap.size w ((wl.setCell ⟨w.heap.size,12,none⟩ y).setCell ⟨w.heap.size,16,none⟩ u)
   /\ ((wl.setCell ⟨w.heap.size,12,none⟩ y).setCell ⟨w.heap.size,16,none⟩ u).ownsRow (w.heap.size+2) t1 9 x n1 l1
   /\ ((wl.setCell ⟨w.heap.size,12,none⟩ y).setCell ⟨w.heap.size,16,none⟩ u).ownsRow (w.heap.size+2) t2 7 y n2 l2
   /\ ((wl.setCell ⟨w.heap.size,12,none⟩ y).setCell ⟨w.heap.size,16,none⟩ u).ownsRow (w.heap.size+2) t3 3 u n3 l3:=by
 have hx':=own_below hx hbl (Nat.le_refl _);have two:∀{B:Nat} {e:TypeId} {k n:Nat} {v:Value} {l:List Value},wl.ownsRow B e k v n l->w.heap.size+2<=B->((wl.setCell ⟨w.heap.size,12,none⟩ y).setCell ⟨w.heap.size,16,none⟩ u).ownsRow (w.heap.size+2) e k v n l:=fun h hB =>
  own_lower (own_setCell_far (a:=⟨w.heap.size,16,none⟩) (own_setCell_far (a:=⟨w.heap.size,12,none⟩) h (own_ne h (show w.heap.size<_ by omega)) y) (own_ne h (show w.heap.size<_ by omega)) u) hB
 refine⟨((hk.ext hbl).put 12 y).put 16 u,((hn.ext hbl).setCell (Nat.succ_ne_self _) y).setCell (Nat.succ_ne_self _) u,((hb2.trans (hbl.mono hb2.size)).setCell (p:=⟨w.heap.size,12,none⟩) (Nat.le_refl _) y).setCell (p:=⟨w.heap.size,16,none⟩) (Nat.le_refl _) u,two hx' h1,two hy h2,two hu h3⟩
set_option maxHeartbeats 6400000 in
set_option maxRecDepth 100000 in
theorem ocopy_p {cs:Array Value} {w:World} (hcs:cs.size=18) (hon:cs.all (·.oneCell')=true) (xA yA zA:Option Addr) (xn xc yn yc zn zc:Nat) (h11:cs[11]? =some (.slice xA xn xc)) (h12:cs[12]? =some (.slice yA yn yc)) (h16:cs[16]? =some (.slice zA zn zc)) (le:List En) (lm:List Mi) (lr:List Rc) (PM PR:Option Addr->Nat->Prop)
  (HE:Hid (∀wx,Below w.heap.size w wx->Calls Tryz.prog 181 #[.slice xA xn xc] wx fun e w'=>(∃A' c',e=.returned (.slice A' xn c')/\w'.ownsRow wx.heap.size 217 9 (.slice A' xn c') xn (flS le)/\(A'=none->c'=0))/\Below wx.heap.size wx w'))
  (HM:Hid (∀wx,Below w.heap.size w wx->Calls Tryz.prog 182 #[.slice yA yn yc] wx fun e w'=>(∃A' c',e=.returned (.slice A' yn c')/\w'.ownsRow wx.heap.size 154 7 (.slice A' yn c') yn (flS lm)/\PM A' c')/\Below wx.heap.size wx w'))
  (HR:Hid (∀wx,Below w.heap.size w wx->Calls Tryz.prog 183 #[.slice zA zn zc] wx fun e w'=>(∃A' c',e=.returned (.slice A' zn c')/\w'.ownsRow wx.heap.size 84 3 (.slice A' zn c') zn (flS lr)/\PR A' c')/\Below wx.heap.size wx w')) :
  Calls Tryz.prog 135 #[.agg cs] w fun e w'=>(∃xA' xc' yA' yc' zA' zc',e=.returned (.agg (((cs.set! 11 (.slice xA' xn xc')).set! 12 (.slice yA' yn yc')).set! 16 (.slice zA' zn zc')))
   /\ w'.ownsRow w.heap.size 217 9 (.slice xA' xn xc') xn (flS le)/\w'.ownsRow w.heap.size 154 7 (.slice yA' yn yc') yn (flS lm)/\w'.ownsRow w.heap.size 84 3 (.slice zA' zn zc') zn (flS lr)
   /\ (xA'=none->xc'=0)/\PM yA' yc'/\PR zA' zc')/\Below w.heap.size w w':=by
 have mixed:Tryz.prog.follows .mixedOrders=true:=by kernel_rfl
 have e11:cs[11]=.slice xA xn xc:=by have:=h11;rw[Array.getElem?_eq_getElem (by omega)] at this;exact Option.some.inj this
 have HON:=Lib.hid hon;clear hon;have HK:=Lib.hid ((Blk.new w cs 74).alloc (.cells #[.int .i64 0,.int .i64 0,.int .i64 0,.int .i64 0,.int .i64 0,.int .i64 0,.int .i64 0,.int .i64 0,.int .i64 0,.int .i64 0,.int .i64 0,.slice none 0 0,.slice none 0 0,.int .i64 0,.int .i64 0,.int .i64 0,.slice none 0 0,.bool false] 74));have HN:=Lib.hid (blk_second w (.cells cs 74) #[.int .i64 0,.int .i64 0,.int .i64 0,.int .i64 0,.int .i64 0,.int .i64 0,.int .i64 0,.int .i64 0,.int .i64 0,.int .i64 0,.int .i64 0,.slice none 0 0,.slice none 0 0,.int .i64 0,.int .i64 0,.int .i64 0,.slice none 0 0,.bool false] 74);have HB:=Lib.hid (ext_second w (.cells cs 74) (.cells #[.int .i64 0,.int .i64 0,.int .i64 0,.int .i64 0,.int .i64 0,.int .i64 0,.int .i64 0,.int .i64 0,.int .i64 0,.int .i64 0,.int .i64 0,.slice none 0 0,.slice none 0 0,.int .i64 0,.int .i64 0,.int .i64 0,.slice none 0 0,.bool false] 74));have H11:=Lib.hid h11;have H12:=Lib.hid h12;have H16:=Lib.hid h16;clear h11 h12 h16
 go_enter Tryz.func135, Tryz.ntmps135
 go_wp2_with (first
  |(go_at_call 181;refine(HE.out _ HB.out).mono ?_;rintro e1 w1 ⟨⟨xA',xc',rfl,hx1,hx2⟩,hb1⟩;have HB1:=Lib.hid (HB.out.trans (hb1.mono HB.out.size));have HN1:=Lib.hid (HN.out.ext hb1);have HK1:=Lib.hid (HK.out.ext hb1);have HX:=Lib.hid (And.intro hx1 hx2);have k11:=HK1.out.cell 11 H11.out;have f11:=HK1.out.fz 11;clear hb1 hx1 hx2))
 have HK2:=Lib.hid (HK1.out.put 11 (.slice xA' xn xc'));have HN2:=Lib.hid (HN1.out.setCell (k:=w.heap.size) (j:=11) (Nat.succ_ne_self _) (.slice xA' xn xc'));have HB2:=Lib.hid (HB1.out.setCell (p:=⟨w.heap.size,11,none⟩) (Nat.le_refl _) (.slice xA' xn xc'));have HX2:=Lib.hid (And.intro (own_setCell_far (a:=⟨w.heap.size,11,none⟩) HX.out.1 (fun h=>absurd (HX.out.1.lt _ h).1 (by simp;omega)) (.slice xA' xn xc')) HX.out.2);generalize w1.setCell ⟨w.heap.size,11,none⟩ (.slice xA' xn xc')=w2 at *
 have HS:=Lib.hid (fun(wx:World) (hb:Below w2.heap.size w2 wx)=>show(wx.cell? ⟨w.heap.size,12,none⟩=some (.slice yA yn yc)/\wx.cell? ⟨w.heap.size,16,none⟩=some (.slice zA zn zc))/\Below w2.heap.size w2 wx from⟨⟨(HK2.out.ext hb).cell 12 (by rw[Array.set!_eq_setIfInBounds,Array.getElem?_setIfInBounds_ne (by decide)];exact H12.out),(HK2.out.ext hb).cell 16 (by rw[Array.set!_eq_setIfInBounds,Array.getElem?_setIfInBounds_ne (by decide)];exact H16.out)⟩,hb⟩);have HMd:=Lib.hid (fun(wx:World) (hb:Below w2.heap.size w2 wx)=>HM.out wx (HB2.out.trans (hb.mono HB2.out.size)));have HRd:=Lib.hid (fun(wx:World) (hb:Below w2.heap.size w2 wx)=>HR.out wx (HB2.out.trans (hb.mono HB2.out.size)));clear k11 f11 e11;have HSd:=Lib.hid (HS.out w2.drew ⟨rfl,rfl,rfl,Nat.le_refl _,fun _ _=>rfl⟩);have d12:=HSd.out.1.1;have d16:=HSd.out.1.2;go_region_with (first
  |(go_at_call 182;refine(HMd.out _ (by with_reducible first|exact HSd.out.2|exact HSr.out.2)).mono ?_;rintro em wm ⟨⟨yA',yc',rfl,hm1,hm2⟩,hbm⟩;have HMo:=Lib.hid (And.intro hm1 (And.intro hm2 hbm));have HSm:=Lib.hid (HS.out wm (by with_reducible first|exact HSd.out.2.trans (hbm.mono HSd.out.2.size)|exact HSr.out.2.trans (hbm.mono HSr.out.2.size)));have m12:=HSm.out.1.1;have m16:=HSm.out.1.2;have km:=(HK2.out.ext HSm.out.2).fz 12;have kn:=(HK2.out.ext HSm.out.2).fz 16;clear hm1 hm2 hbm)
  |(go_at_call 183;refine(HRd.out _ (by with_reducible first|exact HSd.out.2|exact HSm.out.2)).mono ?_;rintro er wr ⟨⟨zA',zc',rfl,hr1,hr2⟩,hbr⟩;have HRo:=Lib.hid (And.intro hr1 (And.intro hr2 hbr));have HSr:=Lib.hid (HS.out wr (by with_reducible first|exact HSd.out.2.trans (hbr.mono HSd.out.2.size)|exact HSm.out.2.trans (hbr.mono HSm.out.2.size)));have r12:=HSr.out.1.1;have r16:=HSr.out.1.2;have kp:=(HK2.out.ext HSr.out.2).fz 12;have kq:=(HK2.out.ext HSr.out.2).fz 16;clear hr1 hr2 hbr))
 all_goals
  have hF:(((cs.set! 11 (.slice xA' xn xc')).set! 12 (.slice yA' yn yc')).set! 16 (.slice zA' zn zc')).size=18:=by simp[hcs]
  have HF:=Lib.hid (copy_fin HK2.out HN2.out HB2.out (by first|exact HSr.out.2.trans (HMo.out.2.2.mono HSr.out.2.size)|exact HSm.out.2.trans (HRo.out.2.2.mono HSm.out.2.size)) HX2.out.1 (by simp) (by first|exact own_below HMo.out.1 HRo.out.2.2 (Nat.le_refl _)|exact HMo.out.1) (by first|exact HN2.out.lt|exact Nat.lt_of_lt_of_le HN2.out.lt HSr.out.2.size) (by first|exact own_below HRo.out.1 HMo.out.2.2 (Nat.le_refl _)|exact HRo.out.1) (by first|exact HN2.out.lt|exact Nat.lt_of_lt_of_le HN2.out.lt HSm.out.2.size));replace HON:=Lib.hid (one_set (one_set (one_set HON.out 11 (.slice xA' xn xc') rfl) 12 (.slice yA' yn yc') rfl) 16 (.slice zA' zn zc') rfl);have HNil:=Lib.hid (And.intro HX2.out.2 (And.intro HMo.out.2.1 HRo.out.2.1));clear d12 d16;generalize hcF:(((cs.set! 11 (.slice xA' xn xc')).set! 12 (.slice yA' yn yc')).set! 16 (.slice zA' zn zc'))=cF at *
  have HCF:=Lib.hid hcF;clear hcF;generalize World.setCell _ ⟨w.heap.size,16,none⟩ _=w9 at *
  go_wp2_with (first
   |(refine wpList_load_row rfl 74 (.tmp 1) rfl w.heap.size cF _ (by simp[go_sem,Act.eval]) HF.out.1 Tryz.underlying74 rfl (by rw[hF];exact st_info) ?_)
   |(refine wpList_store_row rfl 74 (.tmp 2) (.tmp 17) rfl (w.heap.size+1) cF #[.int .i64 0,.int .i64 0,.int .i64 0,.int .i64 0,.int .i64 0,.int .i64 0,.int .i64 0,.int .i64 0,.int .i64 0,.int .i64 0,.int .i64 0,.slice none 0 0,.slice none 0 0,.int .i64 0,.int .i64 0,.int .i64 0,.slice none 0 0,.bool false] (by simp[go_sem,Act.eval]) (by simp[go_sem,Act.eval]) HF.out.2.1 (by rw[hF];exact st_info) (by rw[hF];rfl) HON.out ?_))
  refine bodyPost_ret (v:=.agg cF) (by exact results_cell1 rfl rfl (HF.out.2.1.set cF) Tryz.underlying74 rfl (by rw[hF];exact st_info)) (by exact rfl) ?_;exact⟨⟨xA',xc',yA',yc',zA',zc',by rw[HCF.out],own_row HF.out.2.2.2.1 (Nat.lt_succ_self _) (Nat.le_add_right _ _) _,own_row HF.out.2.2.2.2.1 (Nat.lt_succ_self _) (Nat.le_add_right _ _) _,own_row HF.out.2.2.2.2.2 (Nat.lt_succ_self _) (Nat.le_add_right _ _) _,HNil.out⟩,ext_setRow HF.out.2.2.1 (Nat.le_succ _) _⟩
set_option maxHeartbeats 6400000 in
set_option maxRecDepth 100000 in
theorem ocopy_x {cs:Array Value} {w:World} (hcs:cs.size=18) (hon:cs.all (·.oneCell')=true) (xA yA zA:Option Addr) (xn xc yn yc zn zc:Nat) (h11:cs[11]? =some (.slice xA xn xc)) (h12:cs[12]? =some (.slice yA yn yc)) (h16:cs[16]? =some (.slice zA zn zc)) (le:List En) (lm:List Mi) (lr:List Rc)
  (HE:Hid (∀wx,Below w.heap.size w wx->Calls Tryz.prog 181 #[.slice xA xn xc] wx fun e w'=>(∃A' c',e=.returned (.slice A' xn c')/\w'.ownsRow wx.heap.size 217 9 (.slice A' xn c') xn (flS le)/\(A'=none->c'=0))/\Below wx.heap.size wx w'))
  (HM:Hid (∀wx,Below w.heap.size w wx->Calls Tryz.prog 182 #[.slice yA yn yc] wx fun e w'=>(∃A' c',e=.returned (.slice A' yn c')/\w'.ownsRow wx.heap.size 154 7 (.slice A' yn c') yn (flS lm)/\(A'=none->c'=0))/\Below wx.heap.size wx w'))
  (HR:Hid (∀wx,Below w.heap.size w wx->Calls Tryz.prog 183 #[.slice zA zn zc] wx fun e w'=>(∃A' c',e=.returned (.slice A' zn c')/\w'.ownsRow wx.heap.size 84 3 (.slice A' zn c') zn (flS lr)/\(A'=none->c'=0))/\Below wx.heap.size wx w')) :
  Calls Tryz.prog 135 #[.agg cs] w fun e w'=>(∃xA' xc' yA' yc' zA' zc',e=.returned (.agg (((cs.set! 11 (.slice xA' xn xc')).set! 12 (.slice yA' yn yc')).set! 16 (.slice zA' zn zc')))
   /\ w'.ownsRow w.heap.size 217 9 (.slice xA' xn xc') xn (flS le)/\w'.ownsRow w.heap.size 154 7 (.slice yA' yn yc') yn (flS lm)/\w'.ownsRow w.heap.size 84 3 (.slice zA' zn zc') zn (flS lr)
   /\ (xA'=none->xc'=0)/\(yA'=none->yc'=0)/\(zA'=none->zc'=0))/\Below w.heap.size w w' :=
 ocopy_p hcs hon xA yA zA xn xc yn yc zn zc h11 h12 h16 le lm lr _ _ HE HM HR
theorem ocopy_any (s:St) (x y z:Sl) (w:World) (h:Str w w.heap.size s x y z) (hx1:x.n<=1000000) (hy1:y.n<=1000000) (hz1:z.n<=1000000) :
  Calls Tryz.prog 135 #[sagg s x y z] w fun e w'=>(∃xA xc yA yc zA zc,e=.returned (sagg s ⟨xA,x.n,xc⟩ ⟨yA,y.n,yc⟩ ⟨zA,z.n,zc⟩)
   /\ w'.ownsRow w.heap.size 217 9 (.slice xA x.n xc) x.n (flS s.mf.es)/\w'.ownsRow w.heap.size 154 7 (.slice yA y.n yc) y.n (flS s.bs)/\w'.ownsRow w.heap.size 84 3 (.slice zA z.n zc) z.n (flS s.wt)
   /\ (xA=none->xc=0)/\(yA=none->yc=0)/\(zA=none->zc=0))/\Below w.heap.size w w' :=
 ocopy_x (cs:=stc s x y z) rfl (by simp[stc,Sl.v,Value.oneCell']) x.A y.A z.A x.n x.c y.n y.c z.n z.c rfl rfl rfl s.mf.es s.bs s.wt
  (Lib.hid fun wx hb=>clone_en x.A x.n x.c _ wx ((h.es.below hb).more hb.size) hx1 h.no.1)
  (Lib.hid fun wx hb=>clone_mi y.A y.n y.c _ wx ((h.bs.below hb).more hb.size) hy1 h.no.2.1)
  (Lib.hid fun wx hb=>clone_rc z.A z.n z.c _ wx ((h.wt.below hb).more hb.size) hz1 h.no.2.2)
end Op
end Go.Proofs.YtejcdhdfanfkbaaGreat
namespace Go.Proofs.YtejcdhdfanfkbaaGreat
namespace Lg
open Go.RowKit Hd Rd Fm Sn Nf Dk
open Go.Proofs.YtejcdhdfanfkbaaGreat.Op
theorem conf_any (w:World):Calls Tryz.prog 28 #[] w fun e w'=>e=.returned (.agg #[.int .i64 40,.int .i64 100,.int .i64 300,.int .i64 0,.int .i64 0,.int .i64 0,.int .i64 0])/\Below w.heap.size w w':=by
 have HR:=Lib.hid (Blk.new w #[.int .i64 0,.int .i64 0,.int .i64 0,.int .i64 0,.int .i64 0,.int .i64 0,.int .i64 0] 67);have HB:=Lib.hid (ext_alloc w (.cells #[.int .i64 0,.int .i64 0,.int .i64 0,.int .i64 0,.int .i64 0,.int .i64 0,.int .i64 0] 67))
 go_enter Tryz.func28, Tryz.ntmps28
 go_wp2_with (refine wpList_store_row rfl 67 (.tmp 0) (.tmp 1) rfl w.heap.size #[.int .i64 40,.int .i64 100,.int .i64 300,.int .i64 0,.int .i64 0,.int .i64 0,.int .i64 0] #[.int .i64 0,.int .i64 0,.int .i64 0,.int .i64 0,.int .i64 0,.int .i64 0,.int .i64 0] (by simp[go_sem,Act.eval]) (by simp[go_sem,Act.eval]) HR.out cf_info rfl (by simp[Value.oneCell']) ?_)
 refine bodyPost_ret (v:=.agg #[.int .i64 40,.int .i64 100,.int .i64 300,.int .i64 0,.int .i64 0,.int .i64 0,.int .i64 0]) (by exact results_cell1 rfl rfl (HR.out.set #[.int .i64 40,.int .i64 100,.int .i64 300,.int .i64 0,.int .i64 0,.int .i64 0,.int .i64 0]) Tryz.underlying67 rfl cf_info) (by exact rfl) ?_;exact⟨rfl,ext_setRow HB.out (Nat.le_refl _) _⟩
def c40:Cf:=⟨40,100,300,0,0,0,0⟩
def cs1 (G c:Nat):Array Value:=stc (s1 c40) ⟨some ⟨G,0,none⟩,1,c⟩ ⟨none,0,0⟩ ⟨none,0,0⟩
set_option maxHeartbeats 1600000 in
theorem cln_mi (w:World):Calls Tryz.prog 182 #[.slice none 0 0] w fun e w'=>e=.returned (.slice none 0 0)/\w'=w:=by
 have mixed:Tryz.prog.follows .mixedOrders=true:=by kernel_rfl
 have hq:=fun w=>eqlNil0 Tryz.underlying71 w
 go_enter Tryz.func182, Tryz.ntmps182
 go_wp2_with fail
 go_ret
 exact⟨rfl,rfl⟩
set_option maxHeartbeats 1600000 in
theorem cln_rc (w:World):Calls Tryz.prog 183 #[.slice none 0 0] w fun e w'=>e=.returned (.slice none 0 0)/\w'=w:=by
 have mixed:Tryz.prog.follows .mixedOrders=true:=by kernel_rfl
 have hq:=fun w=>eqlNil0 Tryz.underlying72 w
 go_enter Tryz.func183, Tryz.ntmps183
 go_wp2_with fail
 go_ret
 exact⟨rfl,rfl⟩
theorem copy_cs (G c:Nat) (w:World) (hG:Blk w G (Sh.cl e1).toArray 217) :
  Calls Tryz.prog 135 #[.agg (cs1 G c)] w fun e w'=>(∃G' c',e=.returned (.agg (cs1 G' c'))/\w'.ownsRow w.heap.size 217 9 (.slice (some ⟨G',0,none⟩) 1 c') 1 (flS [e1]))/\Below w.heap.size w w':=by
 refine(ocopy_p (cs:=cs1 G c) rfl (by simp[cs1,stc,Sl.v,Value.oneCell']) (some ⟨G,0,none⟩) none none 1 c 0 0 0 0 rfl rfl rfl [e1] [] [] (fun A c=>A=none/\c=0) (fun A c=>A=none/\c=0)
  (Lib.hid fun wx hb=>clone_en (some ⟨G,0,none⟩) 1 c [e1] wx (rdK_blk (n:=1) (K:=9) (hG.ext hb) rfl) (by omega) (fun h=>by cases h))
  (Lib.hid fun wx hb=>(cln_mi wx).mono (by rintro e w' ⟨rfl,rfl⟩;exact⟨⟨none,0,rfl,World.ownsRow_nil _ _ _ _,rfl,rfl⟩,Below.refl _ _⟩))
  (Lib.hid fun wx hb=>(cln_rc wx).mono (by rintro e w' ⟨rfl,rfl⟩;exact⟨⟨none,0,rfl,World.ownsRow_nil _ _ _ _,rfl,rfl⟩,Below.refl _ _⟩))).mono ?_
 rintro e w' ⟨⟨xA,xc,yA,yc,zA,zc,rfl,o1,-,-,-,⟨rfl,rfl⟩,⟨rfl,rfl⟩⟩,hb⟩;obtain⟨G',c',hv,-⟩:=o1.form (by omega);cases hv
 exact⟨⟨G',_,rfl,o1⟩,hb⟩
theorem loadAt_st (x:Value):Instr.loadAt 74 x=loadRow 74 x:=rfl
attribute [local go_sem ↓] loadAt_st
attribute [local go_sem] run_loadRow
def wrB (bd G c:Nat):Array Value:=#[.pointer (some ⟨bd,0,none⟩),.int .i64 40,.int .i64 100,.int .i64 300,.int .i64 0,.int .i64 0,.int .i64 0,.int .i64 0,.int .i64 1,.int .i64 2,.int .i64 0,.int .i64 1,.slice (some ⟨G,0,none⟩) 1 c,.slice none 0 0,.int .i64 12,.int .i64 1,.int .i64 0,.slice none 0 0,.bool false,.int .i64 1,.int .i64 1,.int .i64 1]
set_option maxHeartbeats 16000000 in
set_option maxRecDepth 100000 in
theorem of_go (bd G:Nat) (w:World) (hG:Blk w G (Sh.cl e1).toArray 217) :
  Calls Tryz.prog 78 #[.pointer (some ⟨bd,0,none⟩),.agg (cs1 G 1),.bool false] w fun e w'=>(∃W G' c',e=.returned (.tuple #[.pointer (some ⟨W,0,none⟩),.int .i64 0])/\w.heap.size<=W/\w.heap.size<=G'/\Blk w' W (wrB bd G' c') 160/\w'.ownsRow w.heap.size 217 9 (.slice (some ⟨G',0,none⟩) 1 c') 1 (flS [e1]))/\Below w.heap.size w w':=by
 have mixed:Tryz.prog.follows .mixedOrders=true:=by kernel_rfl
 have HOH:=Lib.hid (fun(wx:World) (hb:Below w.heap.size w wx)=>show Calls Tryz.prog 134 #[.agg (cs1 G 1)] wx fun e w'=>e=.returned (.tuple #[.agg #[.int .i64 1,.int .i64 1,.int .i64 1],.int .i64 0])/\Below wx.heap.size wx w' from by
  have:=ohead_any (s1 c40) ⟨some ⟨G,0,none⟩,1,1⟩ ⟨none,0,0⟩ ⟨none,0,0⟩ wx (str1 rfl rfl rfl (hG.ext hb)) (by show 1<=1000000;omega) (by show 0<=100000;omega) (by show 0<=1000000;omega);rw[s1_ok (by decide)] at this;exact this)
 have HCP:=Lib.hid (fun(wx:World) (hb:Below w.heap.size w wx)=>copy_cs G 1 wx (hG.ext hb));have hrd17:(cs1 G 1)[17]? =some (.bool false):=rfl;have hZs:(cs1 G 1).size=18:=rfl;generalize hZ:cs1 G 1=Z at *
 have HB0:=Lib.hid (ext_alloc w (.cells Z 74));have HT0:=Lib.hid (Blk.new w Z 74);clear hG hZ
 go_enter Tryz.func78, Tryz.ntmps78
 go_upto_region 4 with (first
  |(refine wpList_load_row rfl 74 (.tmp 4) rfl w.heap.size Z _ (by simp[go_sem,Act.eval]) HT0.out Tryz.underlying74 rfl (by rw[hZs];exact st_info) ?_)
  |(go_at_call 134;refine(HOH.out _ HB0.out).mono ?_;rintro e1 w1 ⟨rfl,hb1⟩;have HB1:=Lib.hid (HB0.out.trans (hb1.mono HB0.out.size));have HT1:=Lib.hid (HT0.out.ext hb1);clear hb1))
 have HB2:=Lib.hid (HB1.out.trans ((ext_alloc w1 (.cells #[.int .i64 1,.int .i64 1,.int .i64 1] 148)).mono HB1.out.size));have HT2:=Lib.hid (HT1.out.alloc (.cells #[.int .i64 1,.int .i64 1,.int .i64 1] 148));have HH2:=Lib.hid (Blk.new w1 #[.int .i64 1,.int .i64 1,.int .i64 1] 148);clear HB1 HT1 HOH HB0 HT0;generalize w1.alloc (.cells #[.int .i64 1,.int .i64 1,.int .i64 1] 148)=w2 at *
 generalize w1.heap.size=b2 at *
 generalize hb0:w.heap.size=b0 at *
 have hrt:RowTy Tryz.prog 74 18:=⟨st_info,_,Tryz.underlying74⟩
 have HN:=Lib.hid (show ∀wx,Below w2.heap.size w2 wx->(fun wx=>((isRowAt wx b0=true/\rowAt wx b0=Z)/\wx.cell? ⟨b2,0,none⟩=some (.int .i64 1)/\wx.cell? ⟨b2,1,none⟩=some (.int .i64 1)/\wx.cell? ⟨b2,2,none⟩=some (.int .i64 1)/\wx.cell? ⟨b0,17,none⟩=some (.bool false))/\Below w2.heap.size w2 wx) wx from fun wx hb =>
  ⟨⟨(HT2.out.ext hb).rowAt,(HH2.out.ext hb).cell 0 rfl,(HH2.out.ext hb).cell 1 rfl,(HH2.out.ext hb).cell 2 rfl,(HT2.out.ext hb).cell 17 hrd17⟩,hb⟩)
 have HSd:=Lib.hid (HN.out w2.drew ⟨rfl,rfl,rfl,Nat.le_refl _,fun _ _=>rfl⟩);have HCP2:=Lib.hid (fun(wx:World) (hb:Below w2.heap.size w2 wx)=>HCP.out wx (HB2.out.trans (hb.mono (hb0▸HB2.out.size))));clear HCP HT2 HH2 hrd17;go_region_held3 (fun wx=>((isRowAt wx b0=true/\rowAt wx b0=Z)/\wx.cell? ⟨b2,0,none⟩=some (.int .i64 1)/\wx.cell? ⟨b2,1,none⟩=some (.int .i64 1)/\wx.cell? ⟨b2,2,none⟩=some (.int .i64 1)/\wx.cell? ⟨b0,17,none⟩=some (.bool false))/\Below w2.heap.size w2 wx) (first|with_reducible exact HSd.out|with_reducible assumption) (first
  |(go_at_call 135;refine(HCP2.out _ HSd.out.2).mono ?_;rintro ec wc ⟨⟨G',c',rfl,ho⟩,hbc⟩;have hSc:=HN.out wc (HSd.out.2.trans (hbc.mono HSd.out.2.size));have hSB:=HN.out (wc.alloc (.cells #[.pointer (some ⟨bd,0,none⟩),.int .i64 40,.int .i64 100,.int .i64 300,.int .i64 0,.int .i64 0,.int .i64 0,.int .i64 0,.int .i64 1,.int .i64 2,.int .i64 0,.int .i64 1,.slice (some ⟨G',0,none⟩) 1 c',.slice none 0 0,.int .i64 12,.int .i64 1,.int .i64 0,.slice none 0 0,.bool false,.int .i64 1,.int .i64 1,.int .i64 1] 160)) ((HSd.out.2.trans (hbc.mono HSd.out.2.size)).trans ((ext_alloc wc _).mono (HSd.out.2.trans (hbc.mono HSd.out.2.size)).size));have HO:=Lib.hid ho;have HWB:=Lib.hid (show Blk (wc.alloc (.cells #[.pointer (some ⟨bd,0,none⟩),.int .i64 40,.int .i64 100,.int .i64 300,.int .i64 0,.int .i64 0,.int .i64 0,.int .i64 0,.int .i64 1,.int .i64 2,.int .i64 0,.int .i64 1,.slice (some ⟨G',0,none⟩) 1 c',.slice none 0 0,.int .i64 12,.int .i64 1,.int .i64 0,.slice none 0 0,.bool false,.int .i64 1,.int .i64 1,.int .i64 1] 160)) wc.heap.size (wrB bd G' c') 160 from Blk.new wc _ _);have HGE:=Lib.hid hbc.size;simp only[cs1,stc,s1,c40,m1,Sl.v];clear ho hbc))
 all_goals
  have k17:=hSB.1.2.2.2.2;have HSB:=Lib.hid hSB;have HBE:=Lib.hid (HB2.out.trans (HSB.out.2.mono (hb0▸HB2.out.size)));have HBC:=Lib.hid (HB2.out.trans (hSc.2.mono (hb0▸HB2.out.size)));have HB2s:b0<=w2.heap.size:=hb0▸HB2.out.size;have HW2:=HSd.out.2.size;clear hSB hSc HSd HN HCP2 HB2;go_wp2_with fail
  go_ret2
  exact⟨⟨_,rfl,hb0▸HBC.out.size,G',Nat.le_trans HB2s (Nat.le_trans HW2 (World.ownsRow.lt HO.out G' rfl).1),c',HWB.out,own_lower (World.ownsRow.alloc HO.out _) (Nat.le_trans HB2s HW2)⟩,HBE.out⟩
end Lg
end Go.Proofs.YtejcdhdfanfkbaaGreat
