/- salvage.Rebuild of a disk with no file, or with one segment's. mani: taker.flag, taker.entry, of the first manifest's bytes. mani: taker.entry, of the first manifest's bytes. -/
import Derived.Test.YtphfmgapiimliaaGreatSc36
import Derived.Test.YtphfmgapiimliaaGreatSc27
import Derived.Test.YtphfmgapiimliaaGreatSc38
import Derived.Test.YtphfmgapiimliaaGreatSc40
import Derived.Test.YtphfmgapiimliaaGreatSc34
import Derived.Test.YtphfmgapiimliaaGreatSc26
import Derived.Test.YtphfmgapiimliaaGreatSc21
namespace Go.Proofs.YtphfmgapiimliaaGreat
namespace Sv
open Go.RowKit Hd Rd Fm Sn Nf Dk Gp
open Go.Proofs.YtphfmgapiimliaaGreat.Op Go.Proofs.YtphfmgapiimliaaGreat.Rf
section
variable {w w':World} {S:Nat->Prop} {bd gN gS:Nat} {v:Value} {D:DS}
set_option maxHeartbeats 3200000 in
set_option maxRecDepth 100000 in
theorem rebuild_none (h:DiskAt w S bd D) (ho:D.off=false) (hn:D.now=[]) :
  Calls Tryz.prog 44 #[.pointer (some ⟨bd,0,none⟩)] w fun e w'=>e=.returned (.tuple #[.agg #[.int .i64 0,.int .i64 0,.int .i64 0,.int .i64 0,.slice none 0 0],.int .i64 201])/\Below w.heap.size w w':=by
 have mixed:Tryz.prog.follows .mixedOrders=true:=by kernel_rfl
 have HM:=Lib.hid (Blk.new w #[.int .i64 0,.int .i64 0,.int .i64 0,.int .i64 0,.slice none 0 0] 26);have HB:=Lib.hid (ext_alloc w (.cells #[.int .i64 0,.int .i64 0,.int .i64 0,.int .i64 0,.slice none 0 0] 26));have HE:=Lib.hid (entries_none (h.ext HB.out) ho hn);clear h ho hn
 go_enter Tryz.func44, Tryz.ntmps44
 go_wp2_with (first
  |(go_at_call 47;refine HE.out.mono ?_;rintro e1 w1 ⟨rfl,hb1⟩;have HB1:=Lib.hid (HB.out.trans (hb1.mono HB.out.size));have HM1:=Lib.hid (HM.out.ext hb1);clear hb1)
  |(refine wpList_store_row rfl 26 (.tmp 2) (.tmp 22) rfl w.heap.size #[.int .i64 0,.int .i64 0,.int .i64 0,.int .i64 0,.slice none 0 0] #[.int .i64 0,.int .i64 0,.int .i64 0,.int .i64 0,.slice none 0 0] (by simp[go_sem,Act.eval]) (by simp[go_sem,Act.eval]) HM1.out mf_info rfl (by simp[Value.oneCell']) ?_))
 refine bodyPost_ret (v:=.tuple #[.agg #[.int .i64 0,.int .i64 0,.int .i64 0,.int .i64 0,.slice none 0 0],.int .i64 201]) (by exact results_cell2 rfl rfl rfl (HM1.out.set #[.int .i64 0,.int .i64 0,.int .i64 0,.int .i64 0,.slice none 0 0]) Tryz.underlying26 rfl mf_info) (by exact rfl) ?_;exact⟨rfl,ext_setRow HB1.out (Nat.le_refl _) _⟩
theorem one_used (h:One1 D):usedD D=12:=by
 obtain⟨b,q,hn,hp⟩:=h.now;unfold usedD;rw[hn];unfold szs;rw[hp];simp only[Option.map_some,Option.getD_some,hdr_size];rfl
set_option maxHeartbeats 6400000 in
set_option maxRecDepth 100000 in
theorem rebuild_one (h:DiskAt w S bd D) (h1:One1 D) (hc:Dk.Calm D) (hcap:100<=D.cap) (hch:D.chg.length<1000000) :
  Calls Tryz.prog 44 #[.pointer (some ⟨bd,0,none⟩)] w fun e w'=>∃(G c b:Nat) (S':Nat->Prop),e=.returned (.tuple #[.agg #[.int .i64 1,.int .i64 2,.int .i64 0,.int .i64 1,.slice (some ⟨G,0,none⟩) 1 c],.int .i64 0])/\D.fl b=none/\DiskAt w' S' bd (saveD (frB 4 (mfB m1)) b D)/\Gr S w S' w':=by
 have mixed:Tryz.prog.follows .mixedOrders=true:=by kernel_rfl
 have HNS:=Lib.hid (show ∀k,w.heap.size<=k-> ¬ S k from fun k hk=>by
  obtain⟨gN,gS,v,h⟩:=h;exact h.gt hk)
 have HM:=Lib.hid (Blk.new w #[.int .i64 0,.int .i64 0,.int .i64 0,.int .i64 0,.slice none 0 0] 26);have HB:=Lib.hid (ext_alloc w (.cells #[.int .i64 0,.int .i64 0,.int .i64 0,.int .i64 0,.slice none 0 0] 26));have HE:=Lib.hid (entries_one (h.ext HB.out) h1);have HCH:=Lib.hid (show ∀(wx:World) (B g c:Nat),wx.ownsRow B 48 9 (.slice (some ⟨g,0,none⟩) 1 c) 1 (flS [e1])->Calls Tryz.prog 16 #[.slice (some ⟨g,0,none⟩) 1 c] wx fun e w'=>(∃g' c',e=.returned (.slice (some ⟨g',0,none⟩) 1 c')/\w'.ownsRow wx.heap.size 48 9 (.slice (some ⟨g',0,none⟩) 1 c') 1 (flS [e1]))/\Below wx.heap.size wx w' from fun wx B g c hown=>by
  obtain⟨A,c',e,hnc,-⟩:=own_slice hown;cases e
  refine(chain_any (some ⟨g,0,none⟩) 1 c [e1] wx (Rd.of_own hown) (by omega) hnc (fun h=>by cases h)).mono ?_;rintro e w' ⟨⟨A',c',rfl,ho,-⟩,hb⟩;rw[show chE [e1]=[e1] from rfl] at ho ⊢;obtain⟨g',rfl⟩:=own_some (n:=0) ho;exact⟨⟨g',c',rfl,ho⟩,hb⟩)
 have HMD:=Lib.hid (fun(wx:World) (g c:Nat) (hr:Rd wx wx.heap.size 9 (some ⟨g,0,none⟩) 1 (flS [e1]))=>made_one g c wx hr);have HCK:=Lib.hid (show ∀(wx:World) (g c:Nat),Rd wx wx.heap.size 9 (some ⟨g,0,none⟩) 1 (flS [e1])->Calls Tryz.prog 61 #[.agg #[.int .i64 1,.int .i64 2,.int .i64 0,.int .i64 1,.slice (some ⟨g,0,none⟩) 1 c]] wx fun e w'=>e=.returned (.int .i64 0)/\Below wx.heap.size wx w' from fun wx g c hr=>by
  have:=mcheck_any m1 ⟨some ⟨g,0,none⟩,1,c⟩ wx hr (by show 1<=1000000;omega);rw[show mfE m1=0 from if_pos m1_ok] at this;exact this)
 have HSV:=Lib.hid (show ∀(wx:World) (g c:Nat),Below w.heap.size w wx->Rd wx wx.heap.size 9 (some ⟨g,0,none⟩) 1 (flS [e1])->Calls Tryz.prog 69 #[.pointer (some ⟨bd,0,none⟩),.agg #[.int .i64 1,.int .i64 2,.int .i64 0,.int .i64 1,.slice (some ⟨g,0,none⟩) 1 c]] wx fun e w'=>e=.returned (.int .i64 0)/\ ∃b S',D.fl b=none/\DiskAt w' S' bd (saveD (frB 4 (mfB m1)) b D)/\Gr S wx S' w' from fun wx g c hx hr=>by
  obtain⟨b,q,hn,hp⟩:=h1.now;refine Save_go (h.ext hx) hc (m:=m1) (s:=⟨some ⟨g,0,none⟩,1,c⟩) hr (by show 1<=1000000;omega) m1_ok ?_ ?_ ?_ hch ?_ ?_
  ·rw[hn]
   intro x hx;obtain rfl:=List.mem_singleton.1 hx;show(segN 1 1).size<=_
   rw[segN_size];decide
  ·rw[hn,lk_cons,if_neg (seg_temp 1 1)];rfl
  ·rw[hn];simp
  ·rw[one_used h1,m1_size]
   show(14:Int)+9+12<=D.cap
   omega
  ·rw[m1_size];omega)
 clear h h1 hc hcap hch
 go_enter Tryz.func44, Tryz.ntmps44
 go_upto_region 6 with (go_at_call 47;refine HE.out.mono ?_;rintro e1 w1 ⟨⟨g,c,rfl,hown1⟩,hb1⟩;have HB1:=Lib.hid (HB.out.trans (hb1.mono HB.out.size));have HM1:=Lib.hid (HM.out.ext hb1);have HO1:=Lib.hid hown1;clear hown1 hb1)
 clear HM HB HE;go_upto_region 7 with (first
  |(go_at_call 16;refine(HCH.out _ _ _ _ HO1.out).mono ?_;rintro e2 w2 ⟨⟨g2,c2,rfl,hown2⟩,hb2⟩;have HB2:=Lib.hid (HB1.out.trans (hb2.mono HB1.out.size));have HM2:=Lib.hid (HM1.out.ext hb2);have HR2:=Lib.hid (Rd.of_own hown2);clear hown2 hb2)
  |(go_at_call 67;refine(HMD.out _ _ _ HR2.out).mono ?_;rintro e3 w3 ⟨rfl,hb3⟩;have HB3:=Lib.hid hb3;clear hb3))
 have hb4:=HB3.out.trans ((ext_second w3 (.cells #[.int .i64 1,.int .i64 2,.int .i64 0,.int .i64 1,.slice (some ⟨g2,0,none⟩) 1 c2] 26) (.cells #[.int .i64 0,.int .i64 0,.int .i64 0] 35)).mono HB3.out.size);have HB4:=Lib.hid (HB2.out.trans (hb4.mono HB2.out.size));have HM4:=Lib.hid (HM2.out.ext hb4);have HR4:=Lib.hid ((HR2.out.below hb4).more hb4.size);have HX4:=Lib.hid ((Blk.new w3 #[.int .i64 1,.int .i64 2,.int .i64 0,.int .i64 1,.slice (some ⟨g2,0,none⟩) 1 c2] 26).alloc (.cells #[.int .i64 0,.int .i64 0,.int .i64 0] 35));have HY4:=Lib.hid (blk_second w3 (.cells #[.int .i64 1,.int .i64 2,.int .i64 0,.int .i64 1,.slice (some ⟨g2,0,none⟩) 1 c2] 26) #[.int .i64 0,.int .i64 0,.int .i64 0] 35);have HN4:=Lib.hid (show w.heap.size<w3.heap.size from Nat.lt_of_lt_of_le HM2.out.lt HB3.out.size);clear hb4 HB3 HB2 HM2 HR2 HB1 HM1 HO1;generalize (w3.alloc (.cells #[.int .i64 1,.int .i64 2,.int .i64 0,.int .i64 1,.slice (some ⟨g2,0,none⟩) 1 c2] 26)).alloc (.cells #[.int .i64 0,.int .i64 0,.int .i64 0] 35)=w4 at *
 generalize w3.heap.size+1=by4 at *
 generalize w3.heap.size=bx4 at *
 go_upto_region 9 with (first
  |(refine wpList_load_row rfl 26 (.tmp 6) rfl bx4 #[.int .i64 1,.int .i64 2,.int .i64 0,.int .i64 1,.slice (some ⟨g2,0,none⟩) 1 c2] _ (by simp[go_sem,Act.eval]) HX4.out Tryz.underlying26 rfl mf_info ?_)
  |(go_at_call 61;refine(HCK.out _ _ _ HR4.out).mono ?_;rintro e5 w5 ⟨rfl,hb5⟩;have HB5:=Lib.hid (HB4.out.trans (hb5.mono HB4.out.size));have HM5:=Lib.hid (HM4.out.ext hb5);have HX5:=Lib.hid (HX4.out.ext hb5);have HY5:=Lib.hid (HY4.out.ext hb5);have HR5:=Lib.hid ((HR4.out.below hb5).more hb5.size);clear hb5))
 have y0:=HY5.out.cell 0 (v:=.int .i64 0) rfl;go_wp2_with (first
  |(refine wpList_load_row rfl 26 (.tmp 6) rfl bx4 #[.int .i64 1,.int .i64 2,.int .i64 0,.int .i64 1,.slice (some ⟨g2,0,none⟩) 1 c2] _ (by simp[go_sem,Act.eval]) HX5.out Tryz.underlying26 rfl mf_info ?_)
  |(go_at_call 69;refine(HSV.out _ _ _ HB5.out HR5.out).mono ?_;rintro e6 w6 ⟨rfl,b,S6,hbn,hD6,hg6⟩;have HD6:=Lib.hid (And.intro hbn hD6);have HG6:=Lib.hid ((Gr.of_below HB5.out).trans hg6);have HM6:=Lib.hid (hg6.blk HM5.out (HNS.out _ (Nat.le_refl _)));have HN6:=Lib.hid (hg6.out HM5.out.lt (HNS.out _ (Nat.le_refl _)));have HX6:=Lib.hid (hg6.blk HX5.out (HNS.out _ (Nat.le_of_lt HN4.out)));clear hbn hD6 hg6 y0)
  |(refine wpList_load_row rfl 26 (.tmp 6) rfl bx4 #[.int .i64 1,.int .i64 2,.int .i64 0,.int .i64 1,.slice (some ⟨g2,0,none⟩) 1 c2] _ (by simp[go_sem,Act.eval]) HX6.out Tryz.underlying26 rfl mf_info ?_)
  |(refine wpList_store_row rfl 26 (.tmp 2) (.tmp 50) rfl w.heap.size #[.int .i64 1,.int .i64 2,.int .i64 0,.int .i64 1,.slice (some ⟨g2,0,none⟩) 1 c2] #[.int .i64 0,.int .i64 0,.int .i64 0,.int .i64 0,.slice none 0 0] (by simp[go_sem,Act.eval]) (by simp[go_sem,Act.eval]) HM6.out mf_info rfl (by simp[Value.oneCell']) ?_))
 refine bodyPost_ret (v:=.tuple #[.agg #[.int .i64 1,.int .i64 2,.int .i64 0,.int .i64 1,.slice (some ⟨g2,0,none⟩) 1 c2],.int .i64 0]) (by exact results_cell2 rfl rfl rfl (HM6.out.set #[.int .i64 1,.int .i64 2,.int .i64 0,.int .i64 1,.slice (some ⟨g2,0,none⟩) 1 c2]) Tryz.underlying26 rfl mf_info) (by exact rfl) ?_;exact⟨g2,c2,b,S6,rfl,HD6.out.1,HD6.out.2.farRow HN6.out _,HG6.out.farRow (Nat.le_refl _) _⟩
end
end Sv
end Go.Proofs.YtphfmgapiimliaaGreat
namespace Go.Proofs.YtphfmgapiimliaaGreat
namespace Md
open Go.RowKit Hd Rd Fm Sn Nf Dk Tk
open Go.Proofs.YtphfmgapiimliaaGreat.Op
def Mb (s:ByteArray):Prop:=s.data.toList=[1,2,0,1,1,1,1,1,0,0,0,0,0,0]
theorem mb_m1:Mb (mfB m1):=by
 unfold Mb mfB;rw[m1_nums];simp only[List.flatMap_cons,List.flatMap_nil,Vi.putV_small (show 0<128 by decide),Vi.putV_small (show 1<128 by decide),Vi.putV_small (show 2<128 by decide)];rfl
theorem Mb.size {s:ByteArray} (h:Mb s):s.size=14:=by
 have:=congrArg List.length h;exact this
def nv (p:Nat):Nat:=([1,2,0,1,1,1,1,1,0,0,0,0,0,0]:List Nat).getD p 0
theorem Mb.gv {s:ByteArray} (h:Mb s) {p:Nat} (hp:p<14):Vi.gv 0 0 (s.data.toList.drop p)=(nv p,1,0):=by
 rw[h];have:p=0∨p=1∨p=2∨p=3∨p=4∨p=5∨p=6∨p=7∨p=8∨p=9∨p=10∨p=11∨p=12∨p=13:=by omega
 rcases this with rfl|rfl|rfl|rfl|rfl|rfl|rfl|rfl|rfl|rfl|rfl|rfl|rfl|rfl<;>exact Sv.gv_one _ (by decide) _
theorem num1 {s:ByteArray} (h:Mb s) (w:World) (b p:Nat) (ht:Ta w b s p) (hp:p<14):Calls Tryz.prog 175 #[.pointer (some ⟨b,0,none⟩)] w fun e w'=>e=.returned (.int .i64 (nv p:Int))/\Ta w' b s (p+1)/\Keep w w' [b]:=by
 refine(num_ok w b p (nv p) 1 s ht (by rw[h.size];omega) (by rw[h.size];omega) (h.gv hp)).mono ?_;rintro e w' ⟨rfl,rfl⟩;exact⟨rfl,ht.set1 _,(Keep.refl w _).set ⟨b,1,none⟩ (.inl (by simp)) _⟩
set_option maxHeartbeats 3200000 in
set_option maxRecDepth 100000 in
theorem flag0 {s:ByteArray} (h:Mb s) (w:World) (b p:Nat) (ht:Ta w b s p) (hp:p<14) (hz:nv p=0) :
  Calls Tryz.prog 221 #[.agg #[.pointer (some ⟨b,0,none⟩)]] w fun e w'=>e=.returned (.bool false)/\Ta w' b s (p+1)/\Keep w w' [b]:=by
 have mixed:Tryz.prog.follows .mixedOrders=true:=by kernel_rfl
 have hT0:Ta (w.alloc (.cells #[.pointer (some ⟨b,0,none⟩)] 235)) b s p:=(Below.heap_alloc w _ _ ht.lt).trans ht;have HA:=Lib.hid (at_any _ b p s hT0);have HNU:=num1 h _ b p hT0 hp;rw[hz] at HNU;replace HNU:=Lib.hid HNU;have HV:=Lib.hid (Var.new w 235 (.pointer (some ⟨b,0,none⟩)));have HB:=Lib.hid ((Keep.refl w [b]).alloc (.cells #[.pointer (some ⟨b,0,none⟩)] 235));clear h ht hT0 hp hz
 go_enter Tryz.func221, Tryz.ntmps221
 go_upto_region 1 with fail
 generalize w.alloc (.cells #[.pointer (some ⟨b,0,none⟩)] 235)=w0 at *
 generalize w.heap.size=N at *
 have c0:=HV.out.cell;go_wp2_with (first
  |(go_at_call 176;refine HA.out.mono ?_;rintro e1 w1 ⟨rfl,rfl⟩)
  |(go_at_call 175;refine HNU.out.mono ?_;rintro e2 w2 ⟨rfl,ht2,hk2⟩;have HF:=Lib.hid (And.intro ht2 (HB.out.trans hk2));clear ht2 hk2 c0))
 go_ret
 exact⟨rfl,HF.out⟩
structure Ej (w:World) (b:Nat) (s:ByteArray) (p:Nat) (wx:World):Prop where
 ta:Ta wx b s p
 bx:Blk wx w.heap.size #[.pointer (some ⟨b,0,none⟩)] 235
 rs:Blk wx (w.heap.size+1) #[.int .i64 0,.int .i64 0,.int .i64 0,.bool false,.int .i64 0,.int .i64 0,.int .i64 0,.int .i64 0,.int .i64 0] 48
 keep:Keep w wx [b]
section
variable {w wx w':World} {b p q:Nat} {s:ByteArray}
theorem Ej.step (h:Ej w b s p wx) (hb:b<w.heap.size) (ht:Ta w' b s q) (hk:Keep wx w' [b]):Ej w b s q w' :=
 ⟨ht,(hk.blk _ h.bx.lt (by simp;omega)).trans h.bx,(hk.blk _ h.rs.lt (by simp;omega)).trans h.rs,h.keep.trans hk⟩
theorem Ej.num (h:Ej w b s p wx) (hb:b<w.heap.size) (hm:Mb s) (hp:p<14):Calls Tryz.prog 175 #[.pointer (some ⟨b,0,none⟩)] wx fun e w'=>e=.returned (.int .i64 (nv p:Int))/\Ej w b s (p+1) w'/\Keep wx w' [b]:=by
 refine(num1 hm wx b p h.ta hp).mono ?_;rintro e w' ⟨rfl,h1,h2⟩;exact⟨rfl,h.step hb h1 h2,h2⟩
theorem Ej.flag (h:Ej w b s p wx) (hb:b<w.heap.size) (hm:Mb s) (hp:p<14) (hz:nv p=0):Calls Tryz.prog 221 #[.agg #[.pointer (some ⟨b,0,none⟩)]] wx fun e w'=>e=.returned (.bool false)/\Ej w b s (p+1) w'/\Keep wx w' [b]:=by
 refine(flag0 hm wx b p h.ta hp hz).mono ?_;rintro e w' ⟨rfl,h1,h2⟩;exact⟨rfl,h.step hb h1 h2,h2⟩
theorem Ej.alloc (h:Ej w b s p wx) (o:Obj):Ej w b s p (wx.alloc o) :=
 ⟨(Below.heap_alloc wx _ _ h.ta.lt).trans h.ta,h.bx.alloc o,h.rs.alloc o,h.keep.alloc o⟩
theorem Ej.far (h:Ej w b s p wx) (hb:b<w.heap.size) {k:Nat} (hk:w.heap.size+1<k) (j:Nat) (v:Value):Ej w b s p (wx.setCell ⟨k,j,none⟩ v) :=
 ⟨h.ta.far (by omega) j v,h.bx.setCell (by omega) v,h.rs.setCell (by omega) v,h.keep.set ⟨k,j,none⟩ (.inr (by show _<=k;omega)) v⟩
end
theorem keep_blk {w w':World} {b g:Nat} {cs:Array Value} {t:TypeId} (k:Keep w w' [b]) (h:Blk w g cs t) (hn:g≠b):Blk w' g cs t:=(k.blk g h.lt (by simpa using hn)).trans h
end Md
end Go.Proofs.YtphfmgapiimliaaGreat
namespace Go.Proofs.YtphfmgapiimliaaGreat
namespace Md
open Go.RowKit Hd Rd Fm Sn Nf Dk Tk
open Go.Proofs.YtphfmgapiimliaaGreat.Op
set_option maxHeartbeats 6400000 in
set_option maxRecDepth 100000 in
theorem entry1 {s:ByteArray} (h:Mb s) (w:World) (b:Nat) (ht:Ta w b s 5) :
  Calls Tryz.prog 177 #[.agg #[.pointer (some ⟨b,0,none⟩)]] w fun e w'=>e=.returned (.agg #[.int .i64 1,.int .i64 1,.int .i64 1,.bool false,.int .i64 0,.int .i64 0,.int .i64 0,.int .i64 0,.int .i64 0])/\Ta w' b s 14/\Keep w w' [b]:=by
 have mixed:Tryz.prog.follows .mixedOrders=true:=by kernel_rfl
 have hb:b<w.heap.size:=ht.lt;have HEb:=Lib.hid hb;have HE0:=Lib.hid (show Ej w b s 5 ((w.alloc (.cells #[.pointer (some ⟨b,0,none⟩)] 235)).alloc (.cells #[.int .i64 0,.int .i64 0,.int .i64 0,.bool false,.int .i64 0,.int .i64 0,.int .i64 0,.int .i64 0,.int .i64 0] 48)) from
  ⟨(Below.heap_alloc _ _ _ (by simp;omega)).trans ((Below.heap_alloc w _ _ hb).trans ht),(Blk.new w _ _).alloc _,blk_second _ _ _ _,((Keep.refl w [b]).alloc _).alloc _⟩)
 have HN5:=Lib.hid (show ∀wx,Ej w b s 5 wx->Calls Tryz.prog 175 #[.pointer (some ⟨b,0,none⟩)] wx fun e w'=>e=.returned (.int .i64 1)/\Ej w b s 6 w'/\Keep wx w' [b] from fun wx hj=>hj.num hb h (by omega));have HN6:=Lib.hid (show ∀wx,Ej w b s 6 wx->Calls Tryz.prog 175 #[.pointer (some ⟨b,0,none⟩)] wx fun e w'=>e=.returned (.int .i64 1)/\Ej w b s 7 w'/\Keep wx w' [b] from fun wx hj=>hj.num hb h (by omega));have HN7:=Lib.hid (show ∀wx,Ej w b s 7 wx->Calls Tryz.prog 175 #[.pointer (some ⟨b,0,none⟩)] wx fun e w'=>e=.returned (.int .i64 1)/\Ej w b s 8 w'/\Keep wx w' [b] from fun wx hj=>hj.num hb h (by omega));have HF8:=Lib.hid (show ∀wx,Ej w b s 8 wx->Calls Tryz.prog 221 #[.agg #[.pointer (some ⟨b,0,none⟩)]] wx fun e w'=>e=.returned (.bool false)/\Ej w b s 9 w'/\Keep wx w' [b] from fun wx hj=>hj.flag hb h (by omega) rfl);have HN9:=Lib.hid (show ∀wx,Ej w b s 9 wx->Calls Tryz.prog 175 #[.pointer (some ⟨b,0,none⟩)] wx fun e w'=>e=.returned (.int .i64 0)/\Ej w b s 10 w'/\Keep wx w' [b] from fun wx hj=>hj.num hb h (by omega));have HN10:=Lib.hid (show ∀wx,Ej w b s 10 wx->Calls Tryz.prog 175 #[.pointer (some ⟨b,0,none⟩)] wx fun e w'=>e=.returned (.int .i64 0)/\Ej w b s 11 w'/\Keep wx w' [b] from fun wx hj=>hj.num hb h (by omega));have HN11:=Lib.hid (show ∀wx,Ej w b s 11 wx->Calls Tryz.prog 175 #[.pointer (some ⟨b,0,none⟩)] wx fun e w'=>e=.returned (.int .i64 0)/\Ej w b s 12 w'/\Keep wx w' [b] from fun wx hj=>hj.num hb h (by omega));have HN12:=Lib.hid (show ∀wx,Ej w b s 12 wx->Calls Tryz.prog 175 #[.pointer (some ⟨b,0,none⟩)] wx fun e w'=>e=.returned (.int .i64 0)/\Ej w b s 13 w'/\Keep wx w' [b] from fun wx hj=>hj.num hb h (by omega));have HN13:=Lib.hid (show ∀wx,Ej w b s 13 wx->Calls Tryz.prog 175 #[.pointer (some ⟨b,0,none⟩)] wx fun e w'=>e=.returned (.int .i64 0)/\Ej w b s 14 w'/\Keep wx w' [b] from fun wx hj=>hj.num hb h (by omega));clear h ht hb
 go_enter Tryz.func177, Tryz.ntmps177
 go_upto_region 1 with fail
 generalize (w.alloc (.cells #[.pointer (some ⟨b,0,none⟩)] 235)).alloc (.cells #[.int .i64 0,.int .i64 0,.int .i64 0,.bool false,.int .i64 0,.int .i64 0,.int .i64 0,.int .i64 0,.int .i64 0] 48)=w0 at *
 have c0:=HE0.out.bx.cell 0 (v:=.pointer (some ⟨b,0,none⟩)) rfl;go_upto_region 3 with (first
  |(go_at_call 175;refine(HN5.out _ HE0.out).mono ?_;rintro e1 w1 ⟨rfl,h1,-⟩;have H6:=Lib.hid h1;clear h1 c0)
  |(go_at_call 175;refine(HN6.out _ H6.out).mono ?_;rintro e2 w2 ⟨rfl,h2,-⟩;have H7:=Lib.hid h2;clear h2)
  |(go_at_call 175;refine(HN7.out _ H7.out).mono ?_;rintro e3 w3 ⟨rfl,h3,-⟩;have H8:=Lib.hid h3;clear h3))
 have H8b:=Lib.hid (H8.out.alloc (.cells #[.int .i64 1,.int .i64 1,.int .i64 1,.bool false,.int .i64 0,.int .i64 0,.int .i64 0,.int .i64 0,.int .i64 0] 48));have HX8:=Lib.hid (Blk.new w3 #[.int .i64 1,.int .i64 1,.int .i64 1,.bool false,.int .i64 0,.int .i64 0,.int .i64 0,.int .i64 0,.int .i64 0] 48);have HO8:=Lib.hid (show w.heap.size+1<w3.heap.size from H8.out.rs.lt);clear HE0 H6 H7 H8 HN5 HN6 HN7;generalize w3.alloc (.cells #[.int .i64 1,.int .i64 1,.int .i64 1,.bool false,.int .i64 0,.int .i64 0,.int .i64 0,.int .i64 0,.int .i64 0] 48)=w4 at *
 generalize w3.heap.size=bx at *
 have c0:=H8b.out.bx.cell 0 (v:=.pointer (some ⟨b,0,none⟩)) rfl;go_upto_region 4 with (go_at_call 221;refine(HF8.out _ H8b.out).mono ?_;rintro e5 w5 ⟨rfl,h5,k5⟩;have H9:=Lib.hid h5;have HX9:=Lib.hid (keep_blk k5 HX8.out (by have:=HO8.out;have:=HEb.out;omega));have x3:=HX9.out.cell 3 (v:=.bool false) rfl;have z3:=HX9.out.fz 3;clear h5 k5 c0)
 have H9b:=Lib.hid (H9.out.far HEb.out HO8.out 3 (.bool false));have HX9b:=Lib.hid (show Blk (w5.setCell ⟨bx,3,none⟩ (.bool false)) bx #[.int .i64 1,.int .i64 1,.int .i64 1,.bool false,.int .i64 0,.int .i64 0,.int .i64 0,.int .i64 0,.int .i64 0] 48 from HX9.out.put 3 (.bool false));clear H9 HX9 x3 z3 H8b HX8 HF8;generalize w5.setCell ⟨bx,3,none⟩ (.bool false)=w6 at *
 go_upto_region 5 with (first
  |(go_at_call 175;refine(HN9.out _ H9b.out).mono ?_;rintro e7 w7 ⟨rfl,h7,k7⟩;have H10:=Lib.hid h7;have HX10:=Lib.hid (keep_blk k7 HX9b.out (by have:=HO8.out;have:=HEb.out;omega));clear h7 k7)
  |(go_at_call 175;refine(HN10.out _ H10.out).mono ?_;rintro e8 w8 ⟨rfl,h8,k8⟩;have H11:=Lib.hid h8;have HX11:=Lib.hid (keep_blk k8 HX10.out (by have:=HO8.out;have:=HEb.out;omega));clear h8 k8)
  |(go_at_call 175;refine(HN11.out _ H11.out).mono ?_;rintro e9 w9 ⟨rfl,h9,k9⟩;have H12:=Lib.hid h9;have HX12:=Lib.hid (keep_blk k9 HX11.out (by have:=HO8.out;have:=HEb.out;omega));clear h9 k9)
  |(go_at_call 175;refine(HN12.out _ H12.out).mono ?_;rintro e10 w10 ⟨rfl,h10,k10⟩;have H13:=Lib.hid h10;have HX13:=Lib.hid (keep_blk k10 HX12.out (by have:=HO8.out;have:=HEb.out;omega));clear h10 k10)
  |(go_at_call 175;refine(HN13.out _ H13.out).mono ?_;rintro e11 w11 ⟨rfl,h11,k11⟩;have H14:=Lib.hid h11;have HX14:=Lib.hid (keep_blk k11 HX13.out (by have:=HO8.out;have:=HEb.out;omega));have x4:=HX14.out.cell 4 (v:=.int .i64 0) rfl;have x5:=HX14.out.cell 5 (v:=.int .i64 0) rfl;have x6:=HX14.out.cell 6 (v:=.int .i64 0) rfl;have x7:=HX14.out.cell 7 (v:=.int .i64 0) rfl;have x8:=HX14.out.cell 8 (v:=.int .i64 0) rfl;have z4:=HX14.out.fz 4;have z5:=HX14.out.fz 5;have z6:=HX14.out.fz 6;have z7:=HX14.out.fz 7;have z8:=HX14.out.fz 8;clear h11 k11))
 have H14b:=Lib.hid (((((H14.out.far HEb.out HO8.out 4 (.int .i64 0)).far HEb.out HO8.out 5 (.int .i64 0)).far HEb.out HO8.out 6 (.int .i64 0)).far HEb.out HO8.out 7 (.int .i64 0)).far HEb.out HO8.out 8 (.int .i64 0));have HX14b:=Lib.hid (show Blk (((((w11.setCell ⟨bx,4,none⟩ (.int .i64 0)).setCell ⟨bx,5,none⟩ (.int .i64 0)).setCell ⟨bx,6,none⟩ (.int .i64 0)).setCell ⟨bx,7,none⟩ (.int .i64 0)).setCell ⟨bx,8,none⟩ (.int .i64 0)) bx #[.int .i64 1,.int .i64 1,.int .i64 1,.bool false,.int .i64 0,.int .i64 0,.int .i64 0,.int .i64 0,.int .i64 0] 48 from((((HX14.out.put 4 (.int .i64 0)).put 5 (.int .i64 0)).put 6 (.int .i64 0)).put 7 (.int .i64 0)).put 8 (.int .i64 0));clear H14 HX14 x4 x5 x6 x7 x8 z4 z5 z6 z7 z8 H9b HX9b H10 HX10 H11 HX11 H12 HX12 H13 HX13 HN9 HN10 HN11 HN12 HN13;generalize ((((w11.setCell ⟨bx,4,none⟩ (.int .i64 0)).setCell ⟨bx,5,none⟩ (.int .i64 0)).setCell ⟨bx,6,none⟩ (.int .i64 0)).setCell ⟨bx,7,none⟩ (.int .i64 0)).setCell ⟨bx,8,none⟩ (.int .i64 0)=w12 at *
 go_wp2_with (first
  |(refine wpList_load_row rfl 48 (.tmp 4) rfl bx #[.int .i64 1,.int .i64 1,.int .i64 1,.bool false,.int .i64 0,.int .i64 0,.int .i64 0,.int .i64 0,.int .i64 0] _ (by simp[go_sem,Act.eval]) HX14b.out Tryz.underlying48 rfl en_info ?_)
  |(refine wpList_store_row rfl 48 (.tmp 2) (.tmp 34) rfl (w.heap.size+1) #[.int .i64 1,.int .i64 1,.int .i64 1,.bool false,.int .i64 0,.int .i64 0,.int .i64 0,.int .i64 0,.int .i64 0] #[.int .i64 0,.int .i64 0,.int .i64 0,.bool false,.int .i64 0,.int .i64 0,.int .i64 0,.int .i64 0,.int .i64 0] (by simp[go_sem,Act.eval]) (by simp[go_sem,Act.eval]) H14b.out.rs en_info rfl (by simp[Value.oneCell']) ?_))
 refine bodyPost_ret (v:=.agg #[.int .i64 1,.int .i64 1,.int .i64 1,.bool false,.int .i64 0,.int .i64 0,.int .i64 0,.int .i64 0,.int .i64 0]) (by exact results_cell1 rfl rfl (H14b.out.rs.set #[.int .i64 1,.int .i64 1,.int .i64 1,.bool false,.int .i64 0,.int .i64 0,.int .i64 0,.int .i64 0,.int .i64 0]) Tryz.underlying48 rfl en_info) (by exact rfl) ?_;have hk:=H14b.out.keep;refine⟨rfl,(setRow_other w12 _ b _ (by have:=HEb.out;omega)).trans H14b.out.ta,hk.os,hk.tape,hk.output,by rw[size_setRow];exact hk.size,fun k hk1 hl=>(setRow_other w12 _ k _ (by omega)).trans (hk.blk k hk1 hl)⟩
end Md
end Go.Proofs.YtphfmgapiimliaaGreat
