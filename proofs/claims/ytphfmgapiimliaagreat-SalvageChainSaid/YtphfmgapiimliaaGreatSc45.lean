/- salvage.Heads of a disk with one segment's file. open.Copy. mani.Same, open.Same; varveref25.Same, varveref33.Same. -/
import Derived.Test.YtphfmgapiimliaaGreatSc32
import Derived.Test.YtphfmgapiimliaaGreatSc34
import Derived.Test.YtphfmgapiimliaaGreatSc25
import Derived.Test.YtphfmgapiimliaaGreatSc24
import Derived.Test.YtphfmgapiimliaaGreatSc28
namespace Go.Proofs.YtphfmgapiimliaaGreat
namespace Sv
open Go.RowKit Hd Rd Fm Sn Nf Dk Gp
open Go.Proofs.YtphfmgapiimliaaGreat.Op Go.Proofs.YtphfmgapiimliaaGreat.Rf
theorem hdEl:El 35 79 (.agg #[.int .i64 0,.int .i64 0,.int .i64 0]) 3 24:=⟨by kernel_rfl,Tryz.underlying79,rfl,by decide,by decide⟩
set_option maxHeartbeats 3200000 in
set_option maxRecDepth 100000 in
theorem heads1 (w:World) (bo:Nat) (T:ByteArray) (hv:Var w bo 79 (.slice none 0 0)) :
  Calls Tryz.prog 73 #[.agg #[.int .i64 1,.int .i64 1,.int .i64 1,.string T],.pointer (some ⟨bo,0,none⟩)] w fun e w'=>e=.returned (.tuple #[])/\(∃A c,Var w' bo 79 (.slice A 1 c))/\Below bo w w':=by
 have mixed:Tryz.prog.follows .mixedOrders=true:=by kernel_rfl
 have HV:=Lib.hid (hv.alloc (.cells #[.int .i64 1,.int .i64 1,.int .i64 1,.string T] 116));have HC:=Lib.hid (Blk.new w #[.int .i64 1,.int .i64 1,.int .i64 1,.string T] 116);have HB:=Lib.hid ((ext_alloc w (.cells #[.int .i64 1,.int .i64 1,.int .i64 1,.string T] 116)).mono (Nat.le_of_lt hv.lt));clear hv
 go_enter Tryz.func73, Tryz.ntmps73
 go_upto_region 1 with fail
 generalize w.alloc (.cells #[.int .i64 1,.int .i64 1,.int .i64 1,.string T] 116)=w0 at *
 generalize w.heap.size=bf at *
 have k0:=HC.out.cell 0 (v:=.int .i64 1) rfl;have k1:=HC.out.cell 1 (v:=.int .i64 1) rfl;have k2:=HC.out.cell 2 (v:=.int .i64 1) rfl;have c0:=HV.out.cell;have hlt:=HV.out.lt;go_wp2_with (at_builtin;(refine wpList_appV hdEl (World.ownsRow_nil _ w0.heap.size _ _) (rdV_new 35 w0 [.int .i64 1,.int .i64 1,.int .i64 1] rfl) (by intro h;cases h) (by intro u hu;simp only[List.mem_cons,List.not_mem_nil,or_false] at hu;rcases hu with rfl|rfl|rfl<;>rfl) (by omega) (by omega) (by simp) ?_);intro v1 w1 hown1 hb1 hg1;obtain⟨A1,c1,rfl,-,-⟩:=own_slice hown1;have hb2:=(ext_alloc w0 (.cells #[.int .i64 1,.int .i64 1,.int .i64 1] 35)).trans hb1;have HV1:=Lib.hid (HV.out.below hb2 hlt);have HB1:=Lib.hid (HB.out.trans (hb2.mono (Nat.le_of_lt hlt)));have c1:=HV1.out.cell;have z1:=HV1.out.frozen;clear hown1 hb1 hb2 hg1 k0 k1 k2 c0)
 go_end0
 exact⟨rfl,⟨_,_,HV1.out.set_ _⟩,HB1.out.setCell (p:=⟨bo,0,none⟩) (Nat.le_refl _) _⟩
section
variable {w w':World} {S:Nat->Prop} {bd gN gS:Nat} {v:Value} {D:DS}
set_option maxHeartbeats 3200000 in
set_option maxRecDepth 100000 in
theorem heads_one (h:DiskAt w S bd D) (h1:One1 D):Calls Tryz.prog 46 #[.pointer (some ⟨bd,0,none⟩)] w fun e w'=>(∃A c,e=.returned (.tuple #[.slice A 1 c,.int .i64 0]))/\Below w.heap.size w w':=by
 have mixed:Tryz.prog.follows .mixedOrders=true:=by kernel_rfl
 have hv:=Var.new w 79 (.slice none 0 0);have hb:=ext_alloc w (.cells #[.slice none 0 0] 79);have HE:=Lib.hid (each_one (Lib.hid begun_any) (h.ext hb) h1 73 #[.pointer (some ⟨w.heap.size,0,none⟩)] (fun w'=>(∃A c,Var w' w.heap.size 79 (.slice A 1 c))/\Below w.heap.size w w') (enters_of Tryz.func73 (by kernel_rfl) rfl) (fun wx hx=>(heads1 wx w.heap.size (hdrB 1 1 1) (hv.below hx hv.lt)).mono (by
  rintro e w' ⟨rfl,q1,q2⟩;exact⟨rfl,q1,hb.trans ((hx.mono hb.size).trans q2)⟩)))
 clear hv hb h h1
 go_enter Tryz.func46, Tryz.ntmps46
 go_wp2_with (go_at_call 72;refine HE.out.mono ?_;rintro e1 w1 ⟨rfl,⟨A,c,hv1⟩,hb1⟩;have HX:=Lib.hid (And.intro hv1 hb1);have c1:=hv1.cell;clear hv1 hb1)
 go_ret2
 exact⟨⟨_,_,rfl⟩,HX.out.2⟩
end
end Sv
end Go.Proofs.YtphfmgapiimliaaGreat
namespace Go.Proofs.YtphfmgapiimliaaGreat
namespace Op
open Go.RowKit Hd Rd Vi Dk
theorem one_set {c:Array Value} (h:c.all (·.oneCell')=true) (k:Nat) (v:Value) (hv:v.oneCell'=true):(c.set! k v).all (·.oneCell')=true:=by
 rw[Array.all_eq_true] at h ⊢;intro i hi;have hi2:i<c.size:=by simpa using hi
 by_cases hk:k=i
 ·subst hk
  have e:(c.set! k v)[k]? =some v:=by simp[hi2]
  rw[Array.getElem?_eq_getElem hi] at e;rw[Option.some.inj e];exact hv
 ·have e:(c.set! k v)[i]? =c[i]? :=by rw[Array.set!_eq_setIfInBounds,Array.getElem?_setIfInBounds_ne hk]
  rw[Array.getElem?_eq_getElem hi,Array.getElem?_eq_getElem hi2] at e;rw[Option.some.inj e];exact h i hi2
theorem own_ne {w:World} {B:Nat} {e:TypeId} {k n g:Nat} {v:Value} {l:List Value} (h:w.ownsRow B e k v n l) (hg:g<B):v.ownBlock≠some g:=fun he=>absurd (h.lt g he).1 (by omega)
theorem own_row {w:World} {B C g:Nat} {e:TypeId} {k n:Nat} {v:Value} {l:List Value} (h:w.ownsRow B e k v n l) (hg:g<B) (hC:C<=B) (c:Array Value):(w.setRow g c).ownsRow C e k v n l :=
 own_lower (own_block h (fun q hq=>setRow_other w g q c (fun e=>own_ne h hg (by rw[<-e];exact hq)))) hC
theorem copy_fin {w w2 wl:World} {c z:Array Value} {t t1 t2 t3:TypeId} {x y u:Value} {n1 n2 n3 B1 B2 B3:Nat} {l1 l2 l3:List Value} (hk:Blk w2 w.heap.size c t) (hn:Blk w2 (w.heap.size+1) z t) (hb2:Below w.heap.size w w2) (hbl:Below w2.heap.size w2 wl)
  (hx:w2.ownsRow B1 t1 9 x n1 l1) (h1:w.heap.size+2<=B1) (hy:wl.ownsRow B2 t2 7 y n2 l2) (h2:w.heap.size+2<=B2) (hu:wl.ownsRow B3 t3 3 u n3 l3) (h3:w.heap.size+2<=B3) :
  Blk ((wl.setCell ⟨w.heap.size,12,none⟩ y).setCell ⟨w.heap.size,16,none⟩ u) w.heap.size ((c.set! 12 y).set! 16 u) t/\Blk ((wl.setCell ⟨w.heap.size,12,none⟩ y).setCell ⟨w.heap.size,16,none⟩ u) (w.heap.size+1) z t
   /\ Below w.heap.size w ((wl.setCell ⟨w.heap.size,12,none⟩ y).setCell ⟨w.heap.size,16,none⟩ u)
   /\ ((wl.setCell ⟨w.heap.size,12,none⟩ y).setCell ⟨w.heap.size,16,none⟩ u).ownsRow (w.heap.size+2) t1 9 x n1 l1
   /\ ((wl.setCell ⟨w.heap.size,12,none⟩ y).setCell ⟨w.heap.size,16,none⟩ u).ownsRow (w.heap.size+2) t2 7 y n2 l2
   /\ ((wl.setCell ⟨w.heap.size,12,none⟩ y).setCell ⟨w.heap.size,16,none⟩ u).ownsRow (w.heap.size+2) t3 3 u n3 l3:=by
 have hx':=own_below hx hbl (Nat.le_refl _);have two:∀{B:Nat} {e:TypeId} {k n:Nat} {v:Value} {l:List Value},wl.ownsRow B e k v n l->w.heap.size+2<=B->((wl.setCell ⟨w.heap.size,12,none⟩ y).setCell ⟨w.heap.size,16,none⟩ u).ownsRow (w.heap.size+2) e k v n l:=fun h hB =>
  own_lower (own_setCell_far (a:=⟨w.heap.size,16,none⟩) (own_setCell_far (a:=⟨w.heap.size,12,none⟩) h (own_ne h (show w.heap.size<_ by omega)) y) (own_ne h (show w.heap.size<_ by omega)) u) hB
 refine⟨((hk.ext hbl).put 12 y).put 16 u,((hn.ext hbl).setCell (Nat.succ_ne_self _) y).setCell (Nat.succ_ne_self _) u,((hb2.trans (hbl.mono hb2.size)).setCell (p:=⟨w.heap.size,12,none⟩) (Nat.le_refl _) y).setCell (p:=⟨w.heap.size,16,none⟩) (Nat.le_refl _) u,two hx' h1,two hy h2,two hu h3⟩
set_option maxHeartbeats 6400000 in
set_option maxRecDepth 100000 in
theorem ocopy_x {cs:Array Value} {w:World} (hcs:cs.size=18) (hon:cs.all (·.oneCell')=true) (xA yA zA:Option Addr) (xn xc yn yc zn zc:Nat) (h11:cs[11]? =some (.slice xA xn xc)) (h12:cs[12]? =some (.slice yA yn yc)) (h16:cs[16]? =some (.slice zA zn zc)) (le:List En) (lm:List Mi) (lr:List Rc)
  (HE:Hid (∀wx,Below w.heap.size w wx->Calls Tryz.prog 41 #[.slice xA xn xc] wx fun e w'=>(∃A' c',e=.returned (.slice A' xn c')/\w'.ownsRow wx.heap.size 48 9 (.slice A' xn c') xn (flS le)/\(A'=none->c'=0))/\Below wx.heap.size wx w'))
  (HM:Hid (∀wx,Below w.heap.size w wx->Calls Tryz.prog 42 #[.slice yA yn yc] wx fun e w'=>(∃A' c',e=.returned (.slice A' yn c')/\w'.ownsRow wx.heap.size 66 7 (.slice A' yn c') yn (flS lm)/\(A'=none->c'=0))/\Below wx.heap.size wx w'))
  (HR:Hid (∀wx,Below w.heap.size w wx->Calls Tryz.prog 43 #[.slice zA zn zc] wx fun e w'=>(∃A' c',e=.returned (.slice A' zn c')/\w'.ownsRow wx.heap.size 33 3 (.slice A' zn c') zn (flS lr)/\(A'=none->c'=0))/\Below wx.heap.size wx w')) :
  Calls Tryz.prog 13 #[.agg cs] w fun e w'=>(∃xA' xc' yA' yc' zA' zc',e=.returned (.agg (((cs.set! 11 (.slice xA' xn xc')).set! 12 (.slice yA' yn yc')).set! 16 (.slice zA' zn zc')))
   /\ w'.ownsRow w.heap.size 48 9 (.slice xA' xn xc') xn (flS le)/\w'.ownsRow w.heap.size 66 7 (.slice yA' yn yc') yn (flS lm)/\w'.ownsRow w.heap.size 33 3 (.slice zA' zn zc') zn (flS lr)
   /\ (xA'=none->xc'=0)/\(yA'=none->yc'=0)/\(zA'=none->zc'=0))/\Below w.heap.size w w':=by
 have mixed:Tryz.prog.follows .mixedOrders=true:=by kernel_rfl
 have e11:cs[11]=.slice xA xn xc:=by have:=h11;rw[Array.getElem?_eq_getElem (by omega)] at this;exact Option.some.inj this
 have HON:=Lib.hid hon;clear hon;have HK:=Lib.hid ((Blk.new w cs 30).alloc (.cells #[.int .i64 0,.int .i64 0,.int .i64 0,.int .i64 0,.int .i64 0,.int .i64 0,.int .i64 0,.int .i64 0,.int .i64 0,.int .i64 0,.int .i64 0,.slice none 0 0,.slice none 0 0,.int .i64 0,.int .i64 0,.int .i64 0,.slice none 0 0,.bool false] 30));have HN:=Lib.hid (blk_second w (.cells cs 30) #[.int .i64 0,.int .i64 0,.int .i64 0,.int .i64 0,.int .i64 0,.int .i64 0,.int .i64 0,.int .i64 0,.int .i64 0,.int .i64 0,.int .i64 0,.slice none 0 0,.slice none 0 0,.int .i64 0,.int .i64 0,.int .i64 0,.slice none 0 0,.bool false] 30);have HB:=Lib.hid (ext_second w (.cells cs 30) (.cells #[.int .i64 0,.int .i64 0,.int .i64 0,.int .i64 0,.int .i64 0,.int .i64 0,.int .i64 0,.int .i64 0,.int .i64 0,.int .i64 0,.int .i64 0,.slice none 0 0,.slice none 0 0,.int .i64 0,.int .i64 0,.int .i64 0,.slice none 0 0,.bool false] 30));have H11:=Lib.hid h11;have H12:=Lib.hid h12;have H16:=Lib.hid h16;clear h11 h12 h16
 go_enter Tryz.func13, Tryz.ntmps13
 go_wp2_with (first
  |(go_at_call 41;refine(HE.out _ HB.out).mono ?_;rintro e1 w1 ⟨⟨xA',xc',rfl,hx1,hx2⟩,hb1⟩;have HB1:=Lib.hid (HB.out.trans (hb1.mono HB.out.size));have HN1:=Lib.hid (HN.out.ext hb1);have HK1:=Lib.hid (HK.out.ext hb1);have HX:=Lib.hid (And.intro hx1 hx2);have k11:=HK1.out.cell 11 H11.out;have f11:=HK1.out.fz 11;clear hb1 hx1 hx2))
 have HK2:=Lib.hid (HK1.out.put 11 (.slice xA' xn xc'));have HN2:=Lib.hid (HN1.out.setCell (k:=w.heap.size) (j:=11) (Nat.succ_ne_self _) (.slice xA' xn xc'));have HB2:=Lib.hid (HB1.out.setCell (p:=⟨w.heap.size,11,none⟩) (Nat.le_refl _) (.slice xA' xn xc'));have HX2:=Lib.hid (And.intro (own_setCell_far (a:=⟨w.heap.size,11,none⟩) HX.out.1 (fun h=>absurd (HX.out.1.lt _ h).1 (by simp;omega)) (.slice xA' xn xc')) HX.out.2);generalize w1.setCell ⟨w.heap.size,11,none⟩ (.slice xA' xn xc')=w2 at *
 have HS:=Lib.hid (fun(wx:World) (hb:Below w2.heap.size w2 wx)=>show(wx.cell? ⟨w.heap.size,12,none⟩=some (.slice yA yn yc)/\wx.cell? ⟨w.heap.size,16,none⟩=some (.slice zA zn zc))/\Below w2.heap.size w2 wx from⟨⟨(HK2.out.ext hb).cell 12 (by rw[Array.set!_eq_setIfInBounds,Array.getElem?_setIfInBounds_ne (by decide)];exact H12.out),(HK2.out.ext hb).cell 16 (by rw[Array.set!_eq_setIfInBounds,Array.getElem?_setIfInBounds_ne (by decide)];exact H16.out)⟩,hb⟩);have HMd:=Lib.hid (fun(wx:World) (hb:Below w2.heap.size w2 wx)=>HM.out wx (HB2.out.trans (hb.mono HB2.out.size)));have HRd:=Lib.hid (fun(wx:World) (hb:Below w2.heap.size w2 wx)=>HR.out wx (HB2.out.trans (hb.mono HB2.out.size)));clear k11 f11 e11;have HSd:=Lib.hid (HS.out w2.drew ⟨rfl,rfl,rfl,Nat.le_refl _,fun _ _=>rfl⟩);have d12:=HSd.out.1.1;have d16:=HSd.out.1.2;go_region_with (first
  |(go_at_call 42;refine(HMd.out _ (by with_reducible first|exact HSd.out.2|exact HSr.out.2)).mono ?_;rintro em wm ⟨⟨yA',yc',rfl,hm1,hm2⟩,hbm⟩;have HMo:=Lib.hid (And.intro hm1 (And.intro hm2 hbm));have HSm:=Lib.hid (HS.out wm (by with_reducible first|exact HSd.out.2.trans (hbm.mono HSd.out.2.size)|exact HSr.out.2.trans (hbm.mono HSr.out.2.size)));have m12:=HSm.out.1.1;have m16:=HSm.out.1.2;have km:=(HK2.out.ext HSm.out.2).fz 12;have kn:=(HK2.out.ext HSm.out.2).fz 16;clear hm1 hm2 hbm)
  |(go_at_call 43;refine(HRd.out _ (by with_reducible first|exact HSd.out.2|exact HSm.out.2)).mono ?_;rintro er wr ⟨⟨zA',zc',rfl,hr1,hr2⟩,hbr⟩;have HRo:=Lib.hid (And.intro hr1 (And.intro hr2 hbr));have HSr:=Lib.hid (HS.out wr (by with_reducible first|exact HSd.out.2.trans (hbr.mono HSd.out.2.size)|exact HSm.out.2.trans (hbr.mono HSm.out.2.size)));have r12:=HSr.out.1.1;have r16:=HSr.out.1.2;have kp:=(HK2.out.ext HSr.out.2).fz 12;have kq:=(HK2.out.ext HSr.out.2).fz 16;clear hr1 hr2 hbr))
 all_goals
  have hF:(((cs.set! 11 (.slice xA' xn xc')).set! 12 (.slice yA' yn yc')).set! 16 (.slice zA' zn zc')).size=18:=by simp[hcs]
  have HF:=Lib.hid (copy_fin HK2.out HN2.out HB2.out (by first|exact HSr.out.2.trans (HMo.out.2.2.mono HSr.out.2.size)|exact HSm.out.2.trans (HRo.out.2.2.mono HSm.out.2.size)) HX2.out.1 (by simp) (by first|exact own_below HMo.out.1 HRo.out.2.2 (Nat.le_refl _)|exact HMo.out.1) (by first|exact HN2.out.lt|exact Nat.lt_of_lt_of_le HN2.out.lt HSr.out.2.size) (by first|exact own_below HRo.out.1 HMo.out.2.2 (Nat.le_refl _)|exact HRo.out.1) (by first|exact HN2.out.lt|exact Nat.lt_of_lt_of_le HN2.out.lt HSm.out.2.size));replace HON:=Lib.hid (one_set (one_set (one_set HON.out 11 (.slice xA' xn xc') rfl) 12 (.slice yA' yn yc') rfl) 16 (.slice zA' zn zc') rfl);have HNil:=Lib.hid (And.intro HX2.out.2 (And.intro HMo.out.2.1 HRo.out.2.1));clear d12 d16;generalize hcF:(((cs.set! 11 (.slice xA' xn xc')).set! 12 (.slice yA' yn yc')).set! 16 (.slice zA' zn zc'))=cF at *
  have HCF:=Lib.hid hcF;clear hcF;generalize World.setCell _ ⟨w.heap.size,16,none⟩ _=w9 at *
  go_wp2_with (first
   |(refine wpList_load_row rfl 30 (.tmp 1) rfl w.heap.size cF _ (by simp[go_sem,Act.eval]) HF.out.1 Tryz.underlying30 rfl (by rw[hF];exact st_info) ?_)
   |(refine wpList_store_row rfl 30 (.tmp 2) (.tmp 17) rfl (w.heap.size+1) cF #[.int .i64 0,.int .i64 0,.int .i64 0,.int .i64 0,.int .i64 0,.int .i64 0,.int .i64 0,.int .i64 0,.int .i64 0,.int .i64 0,.int .i64 0,.slice none 0 0,.slice none 0 0,.int .i64 0,.int .i64 0,.int .i64 0,.slice none 0 0,.bool false] (by simp[go_sem,Act.eval]) (by simp[go_sem,Act.eval]) HF.out.2.1 (by rw[hF];exact st_info) (by rw[hF];rfl) HON.out ?_))
  refine bodyPost_ret (v:=.agg cF) (by exact results_cell1 rfl rfl (HF.out.2.1.set cF) Tryz.underlying30 rfl (by rw[hF];exact st_info)) (by exact rfl) ?_;exact⟨⟨xA',xc',yA',yc',zA',zc',by rw[HCF.out],own_row HF.out.2.2.2.1 (Nat.lt_succ_self _) (Nat.le_add_right _ _) _,own_row HF.out.2.2.2.2.1 (Nat.lt_succ_self _) (Nat.le_add_right _ _) _,own_row HF.out.2.2.2.2.2 (Nat.lt_succ_self _) (Nat.le_add_right _ _) _,HNil.out⟩,ext_setRow HF.out.2.2.1 (Nat.le_succ _) _⟩
theorem ocopy_any (s:St) (x y z:Sl) (w:World) (h:Str w w.heap.size s x y z) (hx1:x.n<=1000000) (hy1:y.n<=1000000) (hz1:z.n<=1000000) :
  Calls Tryz.prog 13 #[sagg s x y z] w fun e w'=>(∃xA xc yA yc zA zc,e=.returned (sagg s ⟨xA,x.n,xc⟩ ⟨yA,y.n,yc⟩ ⟨zA,z.n,zc⟩)
   /\ w'.ownsRow w.heap.size 48 9 (.slice xA x.n xc) x.n (flS s.mf.es)/\w'.ownsRow w.heap.size 66 7 (.slice yA y.n yc) y.n (flS s.bs)/\w'.ownsRow w.heap.size 33 3 (.slice zA z.n zc) z.n (flS s.wt)
   /\ (xA=none->xc=0)/\(yA=none->yc=0)/\(zA=none->zc=0))/\Below w.heap.size w w' :=
 ocopy_x (cs:=stc s x y z) rfl (by simp[stc,Sl.v,Value.oneCell']) x.A y.A z.A x.n x.c y.n y.c z.n z.c rfl rfl rfl s.mf.es s.bs s.wt
  (Lib.hid fun wx hb=>clone_en x.A x.n x.c _ wx ((h.es.below hb).more hb.size) hx1 h.no.1)
  (Lib.hid fun wx hb=>clone_mi y.A y.n y.c _ wx ((h.bs.below hb).more hb.size) hy1 h.no.2.1)
  (Lib.hid fun wx hb=>clone_rc z.A z.n z.c _ wx ((h.wt.below hb).more hb.size) hz1 h.no.2.2)
end Op
end Go.Proofs.YtphfmgapiimliaaGreat
namespace Go.Proofs.YtphfmgapiimliaaGreat
namespace Op
open Go.RowKit Hd Rd Vi Dk
def sameMf (m m':Mf):Bool:=decide (m.g=m'.g/\m.x=m'.x/\m.t=m'.t/\m.fl=m'.fl/\m.es=m'.es)
set_option maxHeartbeats 6400000 in
set_option maxRecDepth 100000 in
theorem msame_any (m m':Mf) (s s':Sl) (w:World) (h1:Rd w w.heap.size 9 s.A s.n (flS m.es)) (h2:Rd w w.heap.size 9 s'.A s'.n (flS m'.es)) (hn:s.n<=1000000) (hn':s'.n<=1000000) :
  Calls Tryz.prog 35 #[magg m s,magg m' s'] w fun e w'=>e=.returned (.bool (sameMf m m'))/\Below w.heap.size w w':=by
 have HE:=Lib.hid (fun(wx:World) (hb:Below w.heap.size w wx)=>eq_en s.A s'.A s.n s'.n s.c s'.c m.es m'.es wx ((h1.below hb).more hb.size) ((h2.below hb).more hb.size) hn (by omega));clear h1 h2 hn hn';obtain⟨g,x,t,f,es⟩:=m;obtain⟨g',x',t',f',es'⟩:=m';obtain⟨A,n,c⟩:=s;obtain⟨A',n',c'⟩:=s';unfold magg;dsimp only at *
 have HB:=Lib.hid (ext_second w (.cells #[.int .i64 g,.int .i64 x,.int .i64 t,.int .i64 f,.slice A n c] 26) (.cells #[.int .i64 g',.int .i64 x',.int .i64 t',.int .i64 f',.slice A' n' c'] 26));generalize hR:sameMf _ _=R;have HR:=Lib.hid (show R=decide (g=g'/\x=x'/\t=t'/\f=f'/\es=es') from hR.symm);clear hR;by_cases e0:g=g'
 case neg =>
  have HF:=Lib.hid (show R=false from by rw[HR.out];exact decide_eq_false fun h=>e0 h.1);have b0:(g==g')=false:=by rw[beq_eq_false_iff_ne];exact e0
  clear e0 HR HE
  go_enter Tryz.func35, Tryz.ntmps35
  go_wp2_with fail
  go_ret
  exact⟨by rw[HF.out];rfl,HB.out⟩
 have b0:(g==g')=true:=by rw[e0];simp
 have E0:=Lib.hid e0;clear e0;by_cases e1:x=x'
 case neg =>
  have HF:=Lib.hid (show R=false from by rw[HR.out];exact decide_eq_false fun h=>e1 h.2.1);have b1:(x==x')=false:=by rw[beq_eq_false_iff_ne];exact e1
  clear e1 HR HE
  go_enter Tryz.func35, Tryz.ntmps35
  go_wp2_with fail
  go_ret
  exact⟨by rw[HF.out];rfl,HB.out⟩
 have b1:(x==x')=true:=by rw[e1];simp
 have E1:=Lib.hid e1;clear e1;by_cases e2:t=t'
 case neg =>
  have HF:=Lib.hid (show R=false from by rw[HR.out];exact decide_eq_false fun h=>e2 h.2.2.1);have b2:(t==t')=false:=by rw[beq_eq_false_iff_ne];exact e2
  clear e2 HR HE
  go_enter Tryz.func35, Tryz.ntmps35
  go_wp2_with fail
  go_ret
  exact⟨by rw[HF.out];rfl,HB.out⟩
 have b2:(t==t')=true:=by rw[e2];simp
 have E2:=Lib.hid e2;clear e2;by_cases e3:f=f'
 case neg =>
  have HF:=Lib.hid (show R=false from by rw[HR.out];exact decide_eq_false fun h=>e3 h.2.2.2.1);have b3:(f==f')=false:=by rw[beq_eq_false_iff_ne];exact e3
  clear e3 HR HE
  go_enter Tryz.func35, Tryz.ntmps35
  go_wp2_with fail
  go_ret
  exact⟨by rw[HF.out];rfl,HB.out⟩
 have b3:(f==f')=true:=by rw[e3];simp
 have E3:=Lib.hid e3;clear e3;have HF:=Lib.hid (show R=decide (es=es') from by
  rw[HR.out];exact decide_eq_decide.2 ⟨fun h=>h.2.2.2.2,fun h=>⟨E0.out,E1.out,E2.out,E3.out,h⟩⟩)
 generalize decide (es=es')=D at *
 clear HR
 go_enter Tryz.func35, Tryz.ntmps35
 go_wp2_with (go_at_call 66;refine(HE.out _ HB.out).mono ?_;rintro e1 w1 ⟨rfl,hb1⟩;have HB1:=Lib.hid (HB.out.trans (hb1.mono HB.out.size));clear hb1)
 go_ret
 exact⟨by rw[HF.out];rfl,HB1.out⟩
set_option maxHeartbeats 6400000 in
set_option maxRecDepth 100000 in
theorem rmsame_any (m m':Mf) (s s':Sl) (w:World) (h1:Rd w w.heap.size 9 s.A s.n (flS m.es)) (h2:Rd w w.heap.size 9 s'.A s'.n (flS m'.es)) (hn:s.n<=1000000) (hn':s'.n<=1000000) :
  Calls Tryz.prog 38 #[magg m s,magg m' s'] w fun e w'=>e=.returned (.bool (sameMf m m'))/\Below w.heap.size w w':=by
 have HE:=Lib.hid (fun(wx:World) (hb:Below w.heap.size w wx)=>rsame_en s.A s'.A s.n s'.n s.c s'.c m.es m'.es wx ((h1.below hb).more hb.size) ((h2.below hb).more hb.size) hn (by omega));clear h1 h2 hn hn';obtain⟨g,x,t,f,es⟩:=m;obtain⟨g',x',t',f',es'⟩:=m';obtain⟨A,n,c⟩:=s;obtain⟨A',n',c'⟩:=s';unfold magg;dsimp only at *
 have HB:=Lib.hid (ext_second w (.cells #[.int .i64 g,.int .i64 x,.int .i64 t,.int .i64 f,.slice A n c] 26) (.cells #[.int .i64 g',.int .i64 x',.int .i64 t',.int .i64 f',.slice A' n' c'] 26));generalize hR:sameMf _ _=R;have HR:=Lib.hid (show R=decide (g=g'/\x=x'/\t=t'/\f=f'/\es=es') from hR.symm);clear hR;by_cases e0:g=g'
 case neg =>
  have HF:=Lib.hid (show R=false from by rw[HR.out];exact decide_eq_false fun h=>e0 h.1);have b0:(g==g')=false:=by rw[beq_eq_false_iff_ne];exact e0
  clear e0 HR HE
  go_enter Tryz.func38, Tryz.ntmps38
  go_wp2_with fail
  go_ret
  exact⟨by rw[HF.out];rfl,HB.out⟩
 have b0:(g==g')=true:=by rw[e0];simp
 have E0:=Lib.hid e0;clear e0;by_cases e1:x=x'
 case neg =>
  have HF:=Lib.hid (show R=false from by rw[HR.out];exact decide_eq_false fun h=>e1 h.2.1);have b1:(x==x')=false:=by rw[beq_eq_false_iff_ne];exact e1
  clear e1 HR HE
  go_enter Tryz.func38, Tryz.ntmps38
  go_wp2_with fail
  go_ret
  exact⟨by rw[HF.out];rfl,HB.out⟩
 have b1:(x==x')=true:=by rw[e1];simp
 have E1:=Lib.hid e1;clear e1;by_cases e2:t=t'
 case neg =>
  have HF:=Lib.hid (show R=false from by rw[HR.out];exact decide_eq_false fun h=>e2 h.2.2.1);have b2:(t==t')=false:=by rw[beq_eq_false_iff_ne];exact e2
  clear e2 HR HE
  go_enter Tryz.func38, Tryz.ntmps38
  go_wp2_with fail
  go_ret
  exact⟨by rw[HF.out];rfl,HB.out⟩
 have b2:(t==t')=true:=by rw[e2];simp
 have E2:=Lib.hid e2;clear e2;by_cases e3:f=f'
 case neg =>
  have HF:=Lib.hid (show R=false from by rw[HR.out];exact decide_eq_false fun h=>e3 h.2.2.2.1);have b3:(f==f')=false:=by rw[beq_eq_false_iff_ne];exact e3
  clear e3 HR HE
  go_enter Tryz.func38, Tryz.ntmps38
  go_wp2_with fail
  go_ret
  exact⟨by rw[HF.out];rfl,HB.out⟩
 have b3:(f==f')=true:=by rw[e3];simp
 have E3:=Lib.hid e3;clear e3;have HF:=Lib.hid (show R=decide (es=es') from by
  rw[HR.out];exact decide_eq_decide.2 ⟨fun h=>h.2.2.2.2,fun h=>⟨E0.out,E1.out,E2.out,E3.out,h⟩⟩)
 generalize decide (es=es')=D at *
 clear HR
 go_enter Tryz.func38, Tryz.ntmps38
 go_wp2_with (go_at_call 15;refine(HE.out _ HB.out).mono ?_;rintro e1 w1 ⟨rfl,hb1⟩;have HB1:=Lib.hid (HB.out.trans (hb1.mono HB.out.size));clear hb1)
 go_ret
 exact⟨by rw[HF.out];rfl,HB1.out⟩
end Op
end Go.Proofs.YtphfmgapiimliaaGreat
