/- disk: used. A region that draws its order, whose operations only read and whose callees may make memory of their own: walked once. disk: Sync's closure. disk: Append, where nothing stands against it. disk: Sync, Cut, where nothing stands against them. Names of files: numbers, segments' names. head: within, Check. seg.of; a segment's file is synced, a frame is put behind it. crc: a table of sums, and the sum of bytes. varint.fits, Fix, Unfix: four bytes. frame: known, get. frame: Put, Get. seg: a segment's file is synced; a frame is put behind it. strings.Builder: Len, String: the shelf's contracts at this dump (written by the kit's lay-shelf.mjs and lay-plain.mjs; cut to two). strings.Builder: copyCheck, WriteString. record: what its functions compute: plain lists, no program. -/
import Derived.Test.YtlnbjikooadmoaaGreatKe48
import Derived.Deep.LoopGhost
import Derived.Test.YtlnbjikooadmoaaGreatKe02
import Derived.Deep.QuietTactic
import Derived.BigQuiet
import Derived.Deep.RegionHeld3
import Derived.Deep.RegionWith
import Derived.Test.YtlnbjikooadmoaaGreatRows
import Derived.Test.YtlnbjikooadmoaaGreatKe01
import Derived.Test.YtlnbjikooadmoaaGreatKe06
import Derived.Laws.BitsAllLaws
import Derived.Test.YtlnbjikooadmoaaGreatKe03
import Derived.Shelf.Strings.Builder1
import Derived.Test.YtlnbjikooadmoaaGreatKe15
import Derived.Test.YtlnbjikooadmoaaGreatKe24
namespace Go.Proofs.YtlnbjikooadmoaaGreat
namespace Dk
open Go.RowKit
theorem vs_split {c b:List (ByteArray×Value)} {s:ByteArray} {v:Value} {r:List (ByteArray×Nat)} (h:vs r=c++(s,v)::b):∃r1 k r2,r=r1++(s,k)::r2/\c=vs r1/\v=ptr k/\b=vs r2:=by
 unfold vs at h
 obtain⟨r1,r3,e1,e2,e3⟩:=List.map_eq_append_iff.1 h
 obtain⟨y,r2,e4,e5,e6⟩:=List.map_eq_cons_iff.1 e3
 simp only[Prod.mk.injEq] at e5
 exact⟨r1,y.2,r2,by rw[e1,e4,<-e5.1],e2.symm,e5.2.symm,e6.symm⟩
theorem vs_append (a b:List (ByteArray×Nat)):vs (a++b)=vs a++vs b:=List.map_append ..
section
variable {w w':World} {S:Nat->Prop} {bd gN gS:Nat} {v:Value} {D:DS}
structure Us (D:DS) (gN it:Nat) (w:World) (r:List (ByteArray×Nat)) (m:Nat) (wr:World):Prop where
 sum:m+szs D.fl r=usedD D
 it:Itr wr gN it (vs D.now) (vs r)
 sub:∀x∈r,D.fl x.2≠none
 below:Below w.heap.size w wr
theorem us_step {r:List (ByteArray×Nat)} {m:Nat} {wr w2:World} {c b:List (ByteArray×Value)} {s:ByteArray} {z:Value} (h:Dat w S bd gN gS v D) (hx:Us D gN w.heap.size w r m wr)
  (e:vs r=c++(s,z)::b) (hi:Itr w2 gN w.heap.size (vs D.now) (c++b)) (hg:wr.grownBy w2 (some w.heap.size)) :
  ∃(k m2:Nat) (r2:List (ByteArray×Nat)) (p:ByteArray×ByteArray),z=.pointer (some ⟨k,0,none⟩)/\w2.cell? ⟨k,1,none⟩=some (.string p.2)/\(m2=m+p.2.size/\m2<=usedD D)/\r2.length<r.length/\Aside (Us D gN w.heap.size w r2 m2 w2):=by
 obtain⟨r1,k,r2,rfl,rfl,rfl,rfl⟩:=vs_split e
 obtain⟨p,hp⟩:=Option.ne_none_iff_exists'.1 (hx.sub (s,k) (by simp))
 have hb2:Below w.heap.size w w2:=hx.below.grown hg hx.below.size (by intro k hk;cases hk;exact Nat.le_refl _)
 have hs:=hx.sum
 rw[szs_append,szs,hp,Option.map_some,Option.getD_some] at hs
 refine⟨k,m+p.2.size,r1++r2,p,rfl,((h.ext hb2).fl k p hp).cell 1 rfl,⟨rfl,by omega⟩,by simp,⟨by rw[szs_append];omega,by rw[vs_append];exact hi,fun x hx'=>hx.sub x ?_,hb2⟩⟩
 rw[List.mem_append] at hx' ⊢
 exact hx'.imp_right (List.mem_cons_of_mem _)
set_option maxHeartbeats 3200000 in
set_option maxRecDepth 100000 in
theorem used_any (h:DiskAt w S bd D):Calls Tryz.prog 75 #[.pointer (some ⟨bd,0,none⟩)] w fun e w'=>e=.returned (.int .i64 (usedD D:Int))/\Below w.heap.size w w':=by
 obtain⟨gN,gS,v,h⟩:=h
 have c0:=h.c0
 have HM:=Lib.hid h.now
 have HH:=Lib.hid h
 have HT:=Lib.hid (show usedD D<=200*1000000 from Nat.le_trans (szs_le (fun b p hp=>(h.fit.big b p hp).2) D.now) (Nat.mul_le_mul_right _ h.fit.now_few))
 have H0:∀w1,Itr w1 gN w.heap.size (vs D.now) (vs D.now)->Below w.heap.size w w1->Aside (Us D gN w.heap.size w D.now 0 w1):=fun w1 h1 h2=>⟨by rw[Nat.zero_add];rfl,h1,h.fit.wfN,h2⟩
 have HLn:=Lib.hid (show D.now.length<=200 from h.fit.now_few)
 clear h
 go_enter Tryz.func75, Tryz.ntmps75
 go_wp2_with (at_range;refine wpList_rangeS Tryz.underlying72 HM.out _ ?_;intro w1 hit1 hb1 hs1)
 have H1:=H0 w1 hit1 hb1
 clear hit1 hb1 hs1 H0 c0
 go_frame
 go_loopg [3] 1000 (fun kx s3 wr=>∃(r:List (ByteArray×Nat)) (m:Nat),s3=.int .i64 (m:Int)/\Hid (r.length<=kx)/\Aside (Us D gN w.heap.size w r m wr))
 case atStart=>exact⟨D.now,0,rfl,by have:=HLn.out;exact Lib.hid (by omega),H1⟩
 case round =>
  clear H1
  obtain⟨r,m,rfl,hk,HX⟩:=hrel
  rcases r with _|⟨x0,r0⟩
  ·have hs:=HX.out.sum
   simp only[szs,Nat.add_zero] at hs
   have HS:=Lib.hid hs
   clear hs
   go_wp2_with (at_next;refine wpList_nextS0 HX.out.it _ ?_)
   go_ret
   exact⟨by rw[HS.out];rfl,HX.out.below⟩
  ·go_wp2_with (at_next;refine wpList_nextS1 HX.out.it (by simp[vs]) _ ?_;intro c s z b w2 e2 hi2 hg2 hs2 hen;obtain⟨k,m2,r2,p,rfl,hc,hm2,hl2,H2⟩:=us_step HH.out HX.out e2 hi2 hg2;have HM2:=Lib.hid hm2;have hT2:=Nat.le_trans hm2.2 HT.out;have HL2:=Lib.hid hl2;have hw:wrap64 ((m:Int)+(p.2.size:Int))=(m:Int)+(p.2.size:Int):=(by unfold wrap64;omega);clear hm2 hT2 hl2 e2 hi2 hg2 hs2)
   go_roundg (gk-1)
   case measure=>have:=HL2.out;have:=hk.out;omega
   case rel=>exact⟨r2,m2,by rw[HM2.out.1];go_num,by have:=HL2.out;have:=hk.out;exact Lib.hid (by omega),H2⟩
end
end Dk
end Go.Proofs.YtlnbjikooadmoaaGreat
namespace Go.Proofs.YtlnbjikooadmoaaGreat
open Go.RowKit
structure Bw (w:World) where
 to:World
 h:Below w.heap.size w to
instance (w:World):Inhabited (Bw w):=⟨⟨w,Below.refl _ _⟩⟩
theorem Bw.cell {w:World} (p:Bw w) {b k:Nat} {v:Value} (hb:b<w.heap.size) (h:w.cell? ⟨b,k,none⟩=some v):p.to.cell? ⟨b,k,none⟩=some v:=(p.h.cell (p:=⟨b,k,none⟩) hb).trans h
theorem Bw.cellAt {w:World} (p:Bw w) {a:Addr} {v:Value} (hb:a.block<w.heap.size) (h:w.cell? a=some v):p.to.cell? a=some v:=(p.h.cell hb).trans h
theorem wp_region_quiet_below {P:Program} {id:Nat} {Q:Exit->Act->World->Prop} {a:Act} {w:World} {l:List Oper} (hm:P.follows .mixedOrders=true) (hB:Region.lexB .any l.toArray=true)
  (h:wpQuiet P l.toArray (fun w'=>∃p:Bw w,w'=p.to) (fun a'=>∀w',(∃p:Bw w,w'=p.to)->Q .normal a' w') l a):(Code.region id l.toArray true).wp P Q a w :=
 wp_region_quiet (C:=fun w'=>∃p:Bw w,w'=p.to) hm hB ⟨⟨{ w with drawn:=w.drawn+1 },⟨rfl,rfl,rfl,Nat.le_refl _,fun _ _=>rfl⟩⟩,rfl⟩ (by simpa using h)
theorem below_of {P:Program} {f:FuncId} {args:Array Value} {w:World} {p:Bw w} {v:Value} (h:Calls P f args p.to fun e w'=>e=.returned v/\Below p.to.heap.size p.to w') :
  Calls P f args p.to fun e w'=>e=.returned v/\ ∃q:Bw w,w'=q.to :=
 h.mono fun _ w' ⟨he,hb⟩=>⟨he,⟨w',p.h.trans (hb.mono p.h.size)⟩,rfl⟩
end Go.Proofs.YtlnbjikooadmoaaGreat
namespace Go.Proofs.YtlnbjikooadmoaaGreat
namespace Dk
open Go.RowKit
section
variable {w w':World} {S:Nat->Prop} {bd gN gS:Nat} {v:Value} {D:DS}
set_option maxHeartbeats 3200000 in
set_option maxRecDepth 100000 in
theorem sync1_any (h:DiskAt w S bd D) {b cf:Nat} {p:ByteArray×ByteArray} (hp:D.fl b=some p) (hc:cf<w.heap.size) (hcs: ¬ S cf) (hf:w.cell? ⟨cf,0,none⟩=some (.pointer (some ⟨b,0,none⟩))) :
  Calls Tryz.prog 107 #[.pointer (some ⟨cf,0,none⟩)] w fun e w'=>e=.returned (.tuple #[])/\ ∃S2,DiskAt w' S2 bd (setF b (p.2,p.2) D)/\Gr S w S2 w':=by
 have mixed:Tryz.prog.follows .mixedOrders=true:=by kernel_rfl
 obtain⟨gN,gS,v,h⟩:=h
 have hB:=h.fl b p hp
 have sb:=h.sF b p hp
 have b0:=hB.cell 0 rfl
 have b1:=hB.cell 1 rfl
 have HSO:=Lib.hid (show ∀wx,Below w.heap.size w wx->(fun wx=>wx.cell? ⟨cf,0,none⟩=some (.pointer (some ⟨b,0,none⟩))/\wx.frozen? ⟨b,0,none⟩=false/\wx.frozen? ⟨b,1,none⟩=false) wx from fun wx hb =>
  ⟨(hb.cell (p:=⟨cf,0,none⟩) hc).trans hf,(hB.ext hb).fz 0,(hB.ext hb).fz 1⟩)
 have HS0:=Lib.hid (HSO.out w.drew ⟨rfl,rfl,rfl,Nat.le_refl _,fun _ _=>rfl⟩)
 have HB0:=Lib.hid (show Below w.heap.size w w.drew from⟨rfl,rfl,rfl,Nat.le_refl _,fun _ _=>rfl⟩)
 have HC:=Lib.hid (show ∀wx,Below w.heap.size w wx->wx.cell? ⟨b,0,none⟩=some (.string p.1)/\wx.cell? ⟨b,1,none⟩=some (.string p.2) from fun wx hb=>⟨(hB.ext hb).cell 0 rfl,(hB.ext hb).cell 1 rfl⟩)
 have HS7:=Lib.hid (show ∀wx,Below w.heap.size w wx->(fun wx=>wx.cell? ⟨cf,0,none⟩=some (.pointer (some ⟨b,0,none⟩))/\wx.frozen? ⟨b,0,none⟩=false/\wx.frozen? ⟨b,1,none⟩=false) ((wx.setCell ⟨b,0,none⟩ (.string p.2)).setCell ⟨b,1,none⟩ (.string p.2)) from fun wx hb=>by
  have q:Blk ((wx.setCell ⟨b,0,none⟩ (.string p.2)).setCell ⟨b,1,none⟩ (.string p.2)) b #[.string p.2,.string p.2] 110:=((hB.ext hb).put 0 _).put 1 _
  have hne:cf≠b:=by rintro rfl;exact hcs sb
  refine⟨?_,q.fz 0,q.fz 1⟩
  rw[World.cell?_of_block (w:=wx) (a:=⟨cf,0,none⟩) (by rw[Below.heap_setCell _ ⟨b,1,none⟩ _ cf hne,Below.heap_setCell _ ⟨b,0,none⟩ _ cf hne])]
  exact(hb.cell (p:=⟨cf,0,none⟩) hc).trans hf)
 have HH:=Lib.hid (show ∀wx,Below w.heap.size w wx->Dat ((wx.setCell ⟨b,0,none⟩ (.string p.2)).setCell ⟨b,1,none⟩ (.string p.2)) S bd gN gS v (setF b (p.2,p.2) D)/\Gr S w S ((wx.setCell ⟨b,0,none⟩ (.string p.2)).setCell ⟨b,1,none⟩ (.string p.2)) from fun wx hb=>by
  have h':=h.ext hb
  have hbg:=(h.fit.big b p hp).2
  exact⟨h'.bytes (by simp) (fun k _ hk=>by rw[Below.heap_setCell _ ⟨b,1,none⟩ _ k hk,Below.heap_setCell _ ⟨b,0,none⟩ _ k hk]) (by rw[hp];simp) (((hB.ext hb).put 0 _).put 1 _) hbg hbg,(Gr.of_below hb).trans ((Gr.setCell sb 0 _).trans (Gr.setCell sb 1 _))⟩)
 have HF:=Lib.hid (fun w=>fsync_any p.1 p.2 w)
 unfold fagg at HF
 clear h hB hp hf
 go_enter Tryz.func107, Tryz.ntmps107
 have k2:=HS0.out.1
 go_region_with (first
  |(go_at_call 101;refine(HF.out _).mono ?_;rintro e5 w5 ⟨rfl,hb5⟩;have hb6:=HB0.out.trans (hb5.mono HB0.out.size);have hS5:=HSO.out _ hb6;have k0:=(HC.out _ hb6).1;have k1:=(HC.out _ hb6).2;have k3:=hS5.1;have k4:=hS5.2.1;have k5:=hS5.2.2))
 all_goals go_end0
 all_goals exact⟨rfl,S,⟨gN,gS,v,(HH.out _ hb6).1⟩,(HH.out _ hb6).2⟩
end
end Dk
end Go.Proofs.YtlnbjikooadmoaaGreat
namespace Go.Proofs.YtlnbjikooadmoaaGreat
namespace Dk
open Go.RowKit
section
variable {w w':World} {S:Nat->Prop} {bd gN gS:Nat} {v:Value} {D:DS}
structure Ap (w:World) (S:Nat->Prop) (bd cf cg b:Nat) (p:ByteArray×ByteArray) (D:DS) (wx:World):Prop where
 disk:DiskAt wx S bd D
 gr:Gr S w S wx
 vf:Blk wx cf #[.pointer (some ⟨b,0,none⟩)] 103
 vg:Blk wx cg #[.string p.1,.string p.2] 110
 nf: ¬ S cf
 ng: ¬ S cg
theorem Ap.ext {cf cg b:Nat} {p:ByteArray×ByteArray} {wx wy:World} (h:Ap w S bd cf cg b p D wx) (hb:Below wx.heap.size wx wy):Ap w S bd cf cg b p D wy :=
 ⟨h.disk.ext hb,h.gr.trans (Gr.of_below hb),h.vf.ext hb,h.vg.ext hb,h.nf,h.ng⟩
theorem ap_new (h:DiskAt w S bd D) (b:Nat) (p:ByteArray×ByteArray) {w2:World} (hb:Below (w.alloc (.cells #[.pointer (some ⟨b,0,none⟩)] 103)).heap.size (w.alloc (.cells #[.pointer (some ⟨b,0,none⟩)] 103)) w2) :
  Ap w S bd w.heap.size w2.heap.size b p D (w2.alloc (.cells #[.string p.1,.string p.2] 110)):=by
 obtain⟨gN,gS,v,h⟩:=h
 have h1:Below w.heap.size w w2:=(ext_alloc w _).trans (hb.mono (by simp))
 refine⟨⟨gN,gS,v,(h.ext h1).ext (ext_alloc w2 _)⟩,(Gr.of_below h1).trans (Gr.of_below (ext_alloc w2 _)),((Blk.new w _ _).ext hb).alloc _,Blk.new w2 _ _,h.gt (Nat.le_refl _),h.gt h1.size⟩
theorem op_file {fid:FuncId} {cf cg b:Nat} {p:ByteArray×ByteArray} {wx:World} (hen:∀args w,(callFunc fid args).run Tryz.prog w=.ok (.enter fid args) w)
  (hc:∀(w1:World) (D1:DS),DiskAt w1 S bd D1->D1.fl b≠none->Blk w1 cg #[.string p.1,.string p.2] 110->w1.cell? ⟨cf,0,none⟩=some (.pointer (some ⟨b,0,none⟩))->Calls Tryz.prog fid #[.pointer (some ⟨cg,0,none⟩),.pointer (some ⟨cf,0,none⟩)] w1 fun e w'=>e=.returned (.tuple #[])/\ ∃S2,DiskAt w' S2 bd (setF b p D1)/\Gr S w1 S2 w')
  (h:Ap w S bd cf cg b p D wx) (hb:D.fl b≠none) :
  Calls Tryz.prog 51 #[.pointer (some ⟨bd,0,none⟩),.bool false,.func (.func fid) #[] #[.pointer (some ⟨cg,0,none⟩),.pointer (some ⟨cf,0,none⟩)]] wx fun e w'=>e=.returned (.int .i64 (opE D))/\ ∃S',DiskAt w' S' bd (opS false (setF b p) D)/\Gr S w S' w':=by
 refine(op_any false fid #[] #[.pointer (some ⟨cg,0,none⟩),.pointer (some ⟨cf,0,none⟩)] (setF b p) h.disk hen fun w1 h1 g1=>?_).mono ?_
 ·exact hc w1 (tick D) h1 hb (g1.blk h.vg h.ng) ((g1.blk h.vf h.nf).cell 0 rfl)
 ·rintro e w' ⟨rfl,S',h2,g2⟩
  exact⟨rfl,S',h2,h.gr.trans g2⟩
set_option maxHeartbeats 3200000 in
set_option maxRecDepth 100000 in
theorem append_go (h:DiskAt w S bd D) {s text:ByteArray} {b:Nat} {p:ByteArray×ByteArray} (ho:D.off=false) (hl:lk s D.now=some b) (hp:D.fl b=some p) (h1:p.2.size+text.size<=1000000) (h2:(text.size:Int)+(usedD D:Int)<=D.cap) :
  Calls Tryz.prog 28 #[.pointer (some ⟨bd,0,none⟩),.string s,.string text] w fun e w'=>e=.returned (.int .i64 (opE D))/\ ∃S',DiskAt w' S' bd (opS false (setF b (p.1,p.2++text)) D)/\Gr S w S' w':=by
 have mixed:Tryz.prog.follows .mixedOrders=true:=by kernel_rfl
 have hF:=find_any h s
 unfold findP at hF
 rw[ho,hl] at hF
 simp only[Bool.false_eq_true,if_false] at hF
 unfold ptr at hF
 have HA:=Lib.hid (fun w=>fapp_ok p.1 p.2 text w h1)
 unfold fagg at HA
 have HN:=Lib.hid (fun w2 hb=>ap_new h b (p.1,p.2++text) (w2:=w2) hb)
 have HO:=Lib.hid (fun(cf cg:Nat) (wx:World) (ha:Ap w S bd cf cg b (p.1,p.2++text) D wx)=>op_file (enters_of Tryz.func76 (by kernel_rfl) rfl) (fun w1 D1 q1 q2 q3 q4=>app1_any q1 q2 q3 q4 (by
  obtain⟨gN,gS,v,h⟩:=h
  exact(h.fit.big b p hp).1) (by rw[ByteArray.size_append];exact h1)) ha (by rw[hp];simp))
 have HU:=Lib.hid (fun(wx:World) (hd:DiskAt wx S bd D)=>used_any hd)
 have hcp:0<=D.cap/\D.cap<=10000000:=by
  obtain⟨gN,gS,v,h⟩:=h
  exact⟨h.fit.cap0,h.fit.cap1⟩
 have HC3:=Lib.hid (fun(wx:World) (hd:DiskAt wx S bd D)=>show wx.cell? ⟨bd,3,none⟩=some (.int .i64 D.cap) from by
  obtain⟨gN,gS,v,hd⟩:=hd
  exact hd.c3)
 have HGT:=Lib.hid (show decide (IntKind.i64.wrap (D.cap-(usedD D:Int))<(text.size:Int))=false from by
  rw[wrap_in (by omega) (by omega)]
  exact decide_eq_false (by omega))
 obtain⟨gN,gS,v,h⟩:=h
 have hB:=h.fl b p hp
 have b0:=hB.cell 0 (v:=.string p.1) rfl
 have b1:=hB.cell 1 (v:=.string p.2) rfl
 have lB:=hB.lt
 clear h hB hp hl ho h1 h2
 generalize p.2++text=T at *
 generalize usedD D=U at *
 generalize D.cap=C at *
 go_enter Tryz.func28, Tryz.ntmps28
 go_wp2_with (first
  |(go_at_call 73;refine hF.mono ?_;rintro e1 w1 ⟨rfl,rfl⟩)
  |(go_at_call 74;refine(HA.out _).mono ?_;rintro e2 w2 ⟨rfl,hb2⟩;have HA2:=Lib.hid (HN.out w2 hb2);clear hb2))
 generalize w2.alloc (.cells #[.string p.1,.string T] 110)=w3 at *
 have k3:∀q:Bw w3,q.to.cell? ⟨bd,3,none⟩=some (.int .i64 C):=fun q=>HC3.out _ (HA2.out.disk.ext q.h)
 have HU2:=Lib.hid (fun q:Bw w3=>HU.out q.to (HA2.out.disk.ext q.h))
 refine wp_region_quiet_below (by assumption) (by kernel_rfl) ?_
 repeat (first|go_big_quiet_skip|quiet_step (first|(go_at_call 75;refine below_of (HU2.out _))))
 refine wpQuiet_nil ?_
 intro _ hw'
 obtain⟨q,rfl⟩:=hw'
 have HO2:=Lib.hid (HO.out _ _ q.to (HA2.out.ext q.h))
 clear k3 HU2
 rw[HGT.out]
 go_wp2_with (go_at_call 51;refine HO2.out.mono ?_;rintro e5 w5 ⟨rfl,S5,hD5,hG5⟩;have HD5:=Lib.hid hD5;have HG5:=Lib.hid hG5;clear hD5 hG5)
 go_ret
 exact⟨rfl,S5,HD5.out,HG5.out⟩
end
end Dk
end Go.Proofs.YtlnbjikooadmoaaGreat
namespace Go.Proofs.YtlnbjikooadmoaaGreat
namespace Dk
open Go.RowKit
section
variable {w w':World} {S:Nat->Prop} {bd gN gS:Nat} {v:Value} {D:DS}
set_option maxHeartbeats 3200000 in
set_option maxRecDepth 100000 in
theorem sync_go (h:DiskAt w S bd D) {s:ByteArray} {b:Nat} {p:ByteArray×ByteArray} (ho:D.off=false) (hl:lk s D.now=some b) (hp:D.fl b=some p) :
  Calls Tryz.prog 64 #[.pointer (some ⟨bd,0,none⟩),.string s] w fun e w'=>e=.returned (.int .i64 (opE D))/\ ∃S',DiskAt w' S' bd (opS true (setF b (p.2,p.2)) D)/\Gr S w S' w':=by
 have hF:=find_any h s
 unfold findP at hF
 rw[ho,hl] at hF
 simp only[Bool.false_eq_true,if_false] at hF
 unfold ptr at hF
 have HO:=Lib.hid (show Calls Tryz.prog 51 #[.pointer (some ⟨bd,0,none⟩),.bool true,.func (.func 107) #[] #[.pointer (some ⟨w.heap.size,0,none⟩)]] (w.alloc (.cells #[.pointer (some ⟨b,0,none⟩)] 103)) fun e w'=>e=.returned (.int .i64 (opE D))/\ ∃S',DiskAt w' S' bd (opS true (setF b (p.2,p.2)) D)/\Gr S w S' w' from by
  have hn: ¬ S w.heap.size:=by
   obtain⟨gN,gS,v,h⟩:=h
   exact h.gt (Nat.le_refl _)
  have hB:=Blk.new w #[.pointer (some ⟨b,0,none⟩)] 103
  refine(op_any true 107 #[] #[.pointer (some ⟨w.heap.size,0,none⟩)] (setF b (p.2,p.2)) (h.ext (ext_alloc w _)) (enters_of Tryz.func107 (by kernel_rfl) rfl) fun w1 h1 g1=>?_).mono ?_
  ·have hB1:=g1.blk hB hn
   exact sync1_any h1 hp hB1.lt hn (hB1.cell 0 rfl)
  ·rintro e w' ⟨rfl,S',h2,g2⟩
   exact⟨rfl,S',h2,(Gr.alloc _).trans g2⟩)
 clear h hp hl ho
 go_enter Tryz.func64, Tryz.ntmps64
 go_wp2_with (first
  |(go_at_call 73;refine hF.mono ?_;rintro e1 w1 ⟨rfl,rfl⟩)
  |(go_at_call 51;refine HO.out.mono ?_;rintro e5 w5 ⟨rfl,S5,hD5,hG5⟩;have HD5:=Lib.hid hD5;have HG5:=Lib.hid hG5;clear hD5 hG5))
 go_ret
 exact⟨rfl,S5,HD5.out,HG5.out⟩
set_option maxHeartbeats 3200000 in
set_option maxRecDepth 100000 in
theorem cut_go (h:DiskAt w S bd D) {s:ByteArray} {n:Nat} {b:Nat} {p:ByteArray×ByteArray} (ho:D.off=false) (hl:lk s D.now=some b) (hp:D.fl b=some p) (h1:n<=p.2.size) :
  Calls Tryz.prog 62 #[.pointer (some ⟨bd,0,none⟩),.string s,.int .i64 (n:Int)] w fun e w'=>e=.returned (.int .i64 (opE D))/\ ∃S',DiskAt w' S' bd (opS false (setF b (p.1,p.2.extract 0 n)) D)/\Gr S w S' w':=by
 have hF:=find_any h s
 unfold findP at hF
 rw[ho,hl] at hF
 simp only[Bool.false_eq_true,if_false] at hF
 unfold ptr at hF
 have hbg:p.1.size<=1000000/\p.2.size<=1000000:=by
  obtain⟨gN,gS,v,h⟩:=h
  exact h.fit.big b p hp
 have HA:=Lib.hid (fun w=>fcut_ok p.1 p.2 n w hbg.2 h1)
 unfold fagg at HA
 have HN:=Lib.hid (fun w2 hb=>ap_new h b (p.1,p.2.extract 0 n) (w2:=w2) hb)
 have HO:=Lib.hid (fun(cf cg:Nat) (wx:World) (ha:Ap w S bd cf cg b (p.1,p.2.extract 0 n) D wx)=>op_file (enters_of Tryz.func104 (by kernel_rfl) rfl) (fun w1 D1 q1 q2 q3 q4=>cut1_any (p:=(p.1,p.2.extract 0 n)) q1 q2 q3 q4 hbg.1 (by rw[ByteArray.size_extract];omega)) ha (by rw[hp];simp))
 obtain⟨gN,gS,v,h⟩:=h
 have hB:=h.fl b p hp
 have b0:=hB.cell 0 (v:=.string p.1) rfl
 have b1:=hB.cell 1 (v:=.string p.2) rfl
 have lB:=hB.lt
 clear h hB hp hl ho h1 hbg
 generalize p.2.extract 0 n=T at *
 go_enter Tryz.func62, Tryz.ntmps62
 go_wp2_with (first
  |(go_at_call 73;refine hF.mono ?_;rintro e1 w1 ⟨rfl,rfl⟩)
  |(go_at_call 103;refine(HA.out _).mono ?_;rintro e2 w2 ⟨rfl,hb2⟩;have HA2:=Lib.hid (HO.out _ _ _ (HN.out w2 hb2));clear hb2)
  |(go_at_call 51;refine HA2.out.mono ?_;rintro e5 w5 ⟨rfl,S5,hD5,hG5⟩;have HD5:=Lib.hid hD5;have HG5:=Lib.hid hG5;clear hD5 hG5))
 go_ret
 exact⟨rfl,S5,HD5.out,HG5.out⟩
end
end Dk
end Go.Proofs.YtlnbjikooadmoaaGreat
namespace Go.Proofs.YtlnbjikooadmoaaGreat
namespace Nm
open Go.RowKit
theorem conv6 (w:World) (a b c d e f:Int):(convert 96 9 (.slice (some ⟨w.heap.size,0,none⟩) 6 6)).run Tryz.prog (w.alloc (.cells #[.int .u8 a,.int .u8 b,.int .u8 c,.int .u8 d,.int .u8 e,.int .u8 f] 5)) =
  .ok (.string (strOfNums [a,b,c,d,e,f])) (w.alloc (.cells #[.int .u8 a,.int .u8 b,.int .u8 c,.int .u8 d,.int .u8 e,.int .u8 f] 5)):=by
 refine run_convert_bytes_arg _ 96 5 Tryz.underlying96 Tryz.underlying5 w.heap.size 0 6 6 [a,b,c,d,e,f] rfl ?_ 9 Tryz.underlying9
 intro i hi
 have:i=0∨i=1∨i=2∨i=3∨i=4∨i=5:=by omega
 rcases this with rfl|rfl|rfl|rfl|rfl|rfl<;>simp[go_sem]
set_option maxHeartbeats 400000 in
theorem number_any (n:Int) (h1:1<=n) (h2:n<=999999) (w:World) :
  Calls Tryz.prog 111 #[.int .i64 n] w fun e w'=>e=.returned (.string ⟨(num6 n).toArray⟩)/\Below w.heap.size w w':=by
 have hmk:∀w,(Instr.makeSlice 96 (.int .i64 6) (.int .i64 6)).run Tryz.prog w=.ok (.slice (some ⟨w.heap.size,0,none⟩) 6 6) (w.alloc (.cells #[.int .u8 0,.int .u8 0,.int .u8 0,.int .u8 0,.int .u8 0,.int .u8 0] 5)):=fun _=>by kernel_rfl
 have hcv:=conv6
 go_enter Tryz.func111, Tryz.ntmps111
 go_wp2
 go_rounds 7
 go_wp2
 go_ret
 refine⟨ret_str rfl,(Below.refl _ _).alloc (Nat.le_refl _) _⟩
set_option maxHeartbeats 400000 in
theorem may_any (n:Int) (w:World):Calls Tryz.prog 110 #[.int .i64 n] w fun e w'=>e=.returned (.bool (may n))/\w=w':=by
 go_enter Tryz.func110, Tryz.ntmps110
 go_wp2
 all_goals
  go_ret
  refine⟨ret_bool ?_,rfl⟩
  unfold may
  rw[Bool.eq_iff_iff]
  simp
  try omega
def segV (i g:Int):Value:=if may i=true/\may g=true then .tuple #[.string ⟨(seg i g).toArray⟩,.int .i64 0] else .tuple #[.string ⟨#[]⟩,.int .i64 2]
theorem seg_bytes (i g:Int):(((ByteArray.mk #[115,101,103,45]++ByteArray.mk (num6 i).toArray)++ByteArray.mk #[45])++ByteArray.mk (num6 g).toArray)++ByteArray.mk #[46,108,111,103]=⟨(seg i g).toArray⟩:=rfl
theorem size_num6 (n:Int):(num6 n).toArray.size=6:=rfl
set_option maxHeartbeats 400000 in
theorem segment_any (i g:Int) (w:World):Calls Tryz.prog 78 #[.int .i64 i,.int .i64 g] w fun e w'=>e=.returned (segV i g)/\Below w.heap.size w w':=by
 by_cases hi:may i=true
 ·by_cases hg:may g=true
  ·have e0:segV i g=.tuple #[.string ⟨(seg i g).toArray⟩,.int .i64 0]:=if_pos ⟨hi,hg⟩
   rw[e0,<-seg_bytes]
   have hi':=(may_iff i).1 hi
   have hg':=(may_iff g).1 hg
   have Hi:=Lib.hid hi;have Hg:=Lib.hid hg
   clear hi hg e0
   have hs:=fun n=>size_num6 n
   go_enter Tryz.func78, Tryz.ntmps78
   go_wp2_with fail
   refine(may_any i _).mono ?_;rintro e w' ⟨rfl,rfl⟩;rw[Hi.out]
   go_wp2_with fail
   refine(may_any g _).mono ?_;rintro e w' ⟨rfl,rfl⟩;rw[Hg.out]
   go_wp2_with fail
   refine(number_any i (by omega) (by omega) _).mono ?_;rintro e w1 ⟨rfl,hb1⟩
   go_wp2_with fail
   refine(number_any g (by omega) (by omega) _).mono ?_;rintro e w2 ⟨rfl,hb2⟩
   go_wp2_with fail
   go_ret2
   exact⟨rfl,hb1.trans (hb2.mono hb1.size)⟩
  ·have e0:segV i g=.tuple #[.string ⟨#[]⟩,.int .i64 2]:=if_neg (by simp[hg])
   rw[e0]
   simp only[Bool.not_eq_true] at hg
   have Hi:=Lib.hid hi;have Hg:=Lib.hid hg
   clear hi hg e0
   go_enter Tryz.func78, Tryz.ntmps78
   go_wp2_with fail
   refine(may_any i _).mono ?_;rintro e w' ⟨rfl,rfl⟩;rw[Hi.out]
   go_wp2_with fail
   refine(may_any g _).mono ?_;rintro e w' ⟨rfl,rfl⟩;rw[Hg.out]
   go_wp2_with fail
   go_ret2
   exact⟨rfl,Below.refl _ _⟩
 ·have e0:segV i g=.tuple #[.string ⟨#[]⟩,.int .i64 2]:=if_neg (by simp[hi])
  rw[e0]
  simp only[Bool.not_eq_true] at hi
  have Hi:=Lib.hid hi
  clear hi e0
  go_enter Tryz.func78, Tryz.ntmps78
  go_wp2_with (go_at_call 110;refine(may_any i _).mono ?_;rintro e w' ⟨rfl,rfl⟩;rw[Hi.out])
  go_ret2
  exact⟨rfl,Below.refl _ _⟩
end Nm
end Go.Proofs.YtlnbjikooadmoaaGreat
namespace Go.Proofs.YtlnbjikooadmoaaGreat
namespace Hd
open Go.RowKit
def inB (n a b:Int):Bool:=decide (a<=n)&&decide (n<=b)
theorem inB_iff (n a b:Int):inB n a b=true↔a<=n/\n<=b:=by simp[inB]
theorem within_any (n a b:Int) (w:World):Calls Tryz.prog 109 #[.int .i64 n,.int .i64 a,.int .i64 b] w fun e w'=>e=.returned (.bool (inB n a b))/\w=w':=by
 have e1:∀{x y:Bool},decide (a<=n)=x->decide (n<=b)=y->inB n a b=(x&&y):=fun hx hy=>by unfold inB;rw[hx,hy]
 by_cases h1:a<=n
 ·by_cases h2:n<=b
  ·have hd:=e1 (decide_eq_true h1) (decide_eq_true h2)
   generalize inB n a b=r at *
   have HD:=Lib.hid hd
   clear hd e1
   go_enter Tryz.func109, Tryz.ntmps109
   go_wp2_with fail
   go_ret
   exact⟨by rw[HD.out];rfl,rfl⟩
  ·have hd:=e1 (decide_eq_true h1) (decide_eq_false h2)
   generalize inB n a b=r at *
   have HD:=Lib.hid hd
   clear hd e1
   go_enter Tryz.func109, Tryz.ntmps109
   go_wp2_with fail
   go_ret
   exact⟨by rw[HD.out];rfl,rfl⟩
 ·have hd:inB n a b=false:=by unfold inB;rw[decide_eq_false h1];rfl
  generalize inB n a b=r at *
  have HD:=Lib.hid hd
  clear hd e1
  go_enter Tryz.func109, Tryz.ntmps109
  go_wp2_with fail
  go_ret
  exact⟨by rw[HD.out];rfl,rfl⟩
def okH (i g f:Int):Bool:=decide (1<=i/\i<=999999/\1<=g/\g<=999999/\1<=f/\f<=1000000000)
theorem inB_no {n a b:Int} (h: ¬ (a<=n/\n<=b)):inB n a b=false:=by
 cases h2:inB n a b with
 |false=>rfl
 |true=>exact absurd ((inB_iff ..).1 h2) h
set_option maxHeartbeats 1600000 in
set_option maxRecDepth 100000 in
theorem check_yes (i g f:Int) (w:World) (h:1<=i/\i<=999999/\1<=g/\g<=999999/\1<=f/\f<=1000000000) :
  Calls Tryz.prog 77 #[.agg #[.int .i64 i,.int .i64 g,.int .i64 f]] w fun e w'=>e=.returned (.int .i64 0)/\Below w.heap.size w w':=by
 have mixed:Tryz.prog.follows .mixedOrders=true:=by kernel_rfl
 have H1:=Lib.hid (fun(wx:World)=>(within_any i 1 999999 wx).mono (R':=fun e w'=>e=.returned (.bool true)/\wx=w') (fun e w' hh=>⟨by rw[hh.1,(inB_iff ..).2 (by omega)],hh.2⟩))
 have H2:=Lib.hid (fun(wx:World)=>(within_any g 1 999999 wx).mono (R':=fun e w'=>e=.returned (.bool true)/\wx=w') (fun e w' hh=>⟨by rw[hh.1,(inB_iff ..).2 (by omega)],hh.2⟩))
 have H3:=Lib.hid (fun(wx:World)=>(within_any f 1 1000000000 wx).mono (R':=fun e w'=>e=.returned (.bool true)/\wx=w') (fun e w' hh=>⟨by rw[hh.1,(inB_iff ..).2 (by omega)],hh.2⟩))
 clear h
 have HB:=Lib.hid (ext_alloc w (.cells #[.int .i64 i,.int .i64 g,.int .i64 f] 33))
 go_enter Tryz.func77, Tryz.ntmps77
 go_wp2_with fail
 refine(H1.out _).mono ?_
 rintro e1 w1 ⟨rfl,rfl⟩
 go_wp2_with fail
 refine(H2.out _).mono ?_
 rintro e2 w2 ⟨rfl,rfl⟩
 go_wp2_with fail
 refine(H3.out _).mono ?_
 rintro e3 w3 ⟨rfl,rfl⟩
 go_wp2_with fail
 go_ret
 exact⟨rfl,HB.out⟩
set_option maxHeartbeats 1600000 in
set_option maxRecDepth 100000 in
theorem check_no1 (i g f:Int) (w:World) (h: ¬ (1<=i/\i<=999999)) :
  Calls Tryz.prog 77 #[.agg #[.int .i64 i,.int .i64 g,.int .i64 f]] w fun e w'=>e=.returned (.int .i64 210)/\Below w.heap.size w w':=by
 have mixed:Tryz.prog.follows .mixedOrders=true:=by kernel_rfl
 have H1:=Lib.hid (fun(wx:World)=>(within_any i 1 999999 wx).mono (R':=fun e w'=>e=.returned (.bool false)/\wx=w') (fun e w' hh=>⟨by rw[hh.1,inB_no (by omega)],hh.2⟩))
 clear h
 have HB:=Lib.hid (ext_alloc w (.cells #[.int .i64 i,.int .i64 g,.int .i64 f] 33))
 go_enter Tryz.func77, Tryz.ntmps77
 go_wp2_with fail
 refine(H1.out _).mono ?_
 rintro e1 w1 ⟨rfl,rfl⟩
 go_wp2_with fail
 go_ret
 exact⟨rfl,HB.out⟩
set_option maxHeartbeats 1600000 in
set_option maxRecDepth 100000 in
theorem check_no2 (i g f:Int) (w:World) (h1:1<=i/\i<=999999) (h: ¬ (1<=g/\g<=999999)) :
  Calls Tryz.prog 77 #[.agg #[.int .i64 i,.int .i64 g,.int .i64 f]] w fun e w'=>e=.returned (.int .i64 210)/\Below w.heap.size w w':=by
 have mixed:Tryz.prog.follows .mixedOrders=true:=by kernel_rfl
 have H1:=Lib.hid (fun(wx:World)=>(within_any i 1 999999 wx).mono (R':=fun e w'=>e=.returned (.bool true)/\wx=w') (fun e w' hh=>⟨by rw[hh.1,(inB_iff ..).2 (by omega)],hh.2⟩))
 have H2:=Lib.hid (fun(wx:World)=>(within_any g 1 999999 wx).mono (R':=fun e w'=>e=.returned (.bool false)/\wx=w') (fun e w' hh=>⟨by rw[hh.1,inB_no (by omega)],hh.2⟩))
 clear h h1
 have HB:=Lib.hid (ext_alloc w (.cells #[.int .i64 i,.int .i64 g,.int .i64 f] 33))
 go_enter Tryz.func77, Tryz.ntmps77
 go_wp2_with fail
 refine(H1.out _).mono ?_
 rintro e1 w1 ⟨rfl,rfl⟩
 go_wp2_with fail
 refine(H2.out _).mono ?_
 rintro e2 w2 ⟨rfl,rfl⟩
 go_wp2_with fail
 go_ret
 exact⟨rfl,HB.out⟩
set_option maxHeartbeats 1600000 in
set_option maxRecDepth 100000 in
theorem check_no3 (i g f:Int) (w:World) (h1:1<=i/\i<=999999) (h2:1<=g/\g<=999999) (h: ¬ (1<=f/\f<=1000000000)) :
  Calls Tryz.prog 77 #[.agg #[.int .i64 i,.int .i64 g,.int .i64 f]] w fun e w'=>e=.returned (.int .i64 210)/\Below w.heap.size w w':=by
 have mixed:Tryz.prog.follows .mixedOrders=true:=by kernel_rfl
 have H1:=Lib.hid (fun(wx:World)=>(within_any i 1 999999 wx).mono (R':=fun e w'=>e=.returned (.bool true)/\wx=w') (fun e w' hh=>⟨by rw[hh.1,(inB_iff ..).2 (by omega)],hh.2⟩))
 have H2:=Lib.hid (fun(wx:World)=>(within_any g 1 999999 wx).mono (R':=fun e w'=>e=.returned (.bool true)/\wx=w') (fun e w' hh=>⟨by rw[hh.1,(inB_iff ..).2 (by omega)],hh.2⟩))
 have H3:=Lib.hid (fun(wx:World)=>(within_any f 1 1000000000 wx).mono (R':=fun e w'=>e=.returned (.bool false)/\wx=w') (fun e w' hh=>⟨by rw[hh.1,inB_no (by omega)],hh.2⟩))
 clear h h1 h2
 have HB:=Lib.hid (ext_alloc w (.cells #[.int .i64 i,.int .i64 g,.int .i64 f] 33))
 go_enter Tryz.func77, Tryz.ntmps77
 go_wp2_with fail
 refine(H1.out _).mono ?_
 rintro e1 w1 ⟨rfl,rfl⟩
 go_wp2_with fail
 refine(H2.out _).mono ?_
 rintro e2 w2 ⟨rfl,rfl⟩
 go_wp2_with fail
 refine(H3.out _).mono ?_
 rintro e3 w3 ⟨rfl,rfl⟩
 go_wp2_with fail
 go_ret
 exact⟨rfl,HB.out⟩
theorem check_any (i g f:Int) (w:World) :
  Calls Tryz.prog 77 #[.agg #[.int .i64 i,.int .i64 g,.int .i64 f]] w fun e w'=>e=.returned (.int .i64 (if okH i g f=true then 0 else 210))/\Below w.heap.size w w':=by
 have hk:okH i g f=true↔1<=i/\i<=999999/\1<=g/\g<=999999/\1<=f/\f<=1000000000:=by simp[okH]
 by_cases h:okH i g f=true
 ·rw[if_pos h]
  exact check_yes i g f w (hk.1 h)
 ·rw[if_neg h]
  rw[hk] at h
  by_cases h1:1<=i/\i<=999999
  ·by_cases h2:1<=g/\g<=999999
   ·exact check_no3 i g f w h1 h2 (by omega)
   ·exact check_no2 i g f w h1 h2
  ·exact check_no1 i g f w h1
end Hd
end Go.Proofs.YtlnbjikooadmoaaGreat
namespace Go.Proofs.YtlnbjikooadmoaaGreat
namespace Dk
open Go.RowKit Hd
def sgc (bd:Nat) (i g f:Int) (s:ByteArray):Array Value:=#[.pointer (some ⟨bd,0,none⟩),.int .i64 i,.int .i64 g,.int .i64 f,.string s]
def segN (i g:Int):ByteArray:=⟨(Nm.seg i g).toArray⟩
theorem sg_info:(Tryz.prog.info? 77).map (·.size)=some 5:=by kernel_rfl
section
variable {w w':World} {S:Nat->Prop} {bd gN gS:Nat} {v:Value} {D:DS}
set_option maxHeartbeats 3200000 in
set_option maxRecDepth 100000 in
theorem of_ok (i g f:Int) (w:World) (h:okH i g f=true) :
  Calls Tryz.prog 30 #[.pointer (some ⟨bd,0,none⟩),.agg #[.int .i64 i,.int .i64 g,.int .i64 f]] w fun e w'=>e=.returned (.tuple #[.agg (sgc bd i g f (segN i g)),.int .i64 0])/\Below w.heap.size w w':=by
 have HC:=Lib.hid (fun w=>check_any i g f w)
 rw[h] at HC
 simp only[if_true] at HC
 have hm:Nm.may i=true/\Nm.may g=true:=by
  simp only[okH,decide_eq_true_eq] at h
  rw[Nm.may_iff,Nm.may_iff];omega
 have HN:=Lib.hid (fun w=>Nm.segment_any i g w)
 have e0:Nm.segV i g=.tuple #[.string (segN i g),.int .i64 0]:=if_pos hm
 rw[e0] at HN
 clear h hm e0
 unfold sgc
 generalize segN i g=s at *
 have B0:=(Blk.new w #[.int .i64 i,.int .i64 g,.int .i64 f] 33).alloc (.cells #[.pointer none,.int .i64 0,.int .i64 0,.int .i64 0,.string ⟨#[]⟩] 77)
 have B1:=blk_second w (.cells #[.int .i64 i,.int .i64 g,.int .i64 f] 33) #[.pointer none,.int .i64 0,.int .i64 0,.int .i64 0,.string ⟨#[]⟩] 77
 have B2:=ext_second w (.cells #[.int .i64 i,.int .i64 g,.int .i64 f] 33) (.cells #[.pointer none,.int .i64 0,.int .i64 0,.int .i64 0,.string ⟨#[]⟩] 77)
 go_enter Tryz.func30, Tryz.ntmps30
 go_wp2_with (first
  |(go_at_call 77;refine(HC.out _).mono ?_;rintro e1 w1 ⟨rfl,hb1⟩;have HB1:=Lib.hid (B0.ext hb1);have HS1:=Lib.hid (B1.ext hb1);have HW1:=Lib.hid (B2.trans (hb1.mono B2.size));clear hb1 B0 B1 B2;have k0:=HB1.out.cell 0 (v:=.int .i64 i) rfl;have k1:=HB1.out.cell 1 (v:=.int .i64 g) rfl)
  |(go_at_call 78;refine(HN.out _).mono ?_;rintro e2 w2 ⟨rfl,hb2⟩;have HB2:=Lib.hid (HB1.out.ext hb2);have HS2:=Lib.hid (HS1.out.ext hb2);have HW2:=Lib.hid (HW1.out.trans (hb2.mono HW1.out.size));clear hb2 k0 k1;have k0:=HB2.out.cell 0 (v:=.int .i64 i) rfl;have k1:=HB2.out.cell 1 (v:=.int .i64 g) rfl;have k2:=HB2.out.cell 2 (v:=.int .i64 f) rfl)
  |(refine wpList_store_row rfl 77 (.tmp 4) (.tmp 26) rfl (w.heap.size+1) #[.pointer (some ⟨bd,0,none⟩),.int .i64 i,.int .i64 g,.int .i64 f,.string s] #[.pointer none,.int .i64 0,.int .i64 0,.int .i64 0,.string ⟨#[]⟩] (by simp[go_sem,Act.eval]) (by simp[go_sem,Act.eval]) HS2.out sg_info rfl (by simp[Value.oneCell']) ?_))
 refine bodyPost_ret (v:=.tuple #[.agg #[.pointer (some ⟨bd,0,none⟩),.int .i64 i,.int .i64 g,.int .i64 f,.string s],.int .i64 0]) (by exact results_cell2 rfl rfl rfl (HS2.out.set #[.pointer (some ⟨bd,0,none⟩),.int .i64 i,.int .i64 g,.int .i64 f,.string s]) Tryz.underlying77 rfl sg_info) (by exact rfl) ?_
 exact⟨rfl,ext_setRow HW2.out (Nat.le_succ _) _⟩
set_option maxHeartbeats 3200000 in
set_option maxRecDepth 100000 in
theorem of_bad (i g f:Int) (w:World) (h:okH i g f=false) :
  Calls Tryz.prog 30 #[.pointer (some ⟨bd,0,none⟩),.agg #[.int .i64 i,.int .i64 g,.int .i64 f]] w fun e w'=>e=.returned (.tuple #[.agg #[.pointer none,.int .i64 0,.int .i64 0,.int .i64 0,.string ⟨#[]⟩],.int .i64 210])/\Below w.heap.size w w':=by
 have HC:=Lib.hid (fun w=>check_any i g f w)
 rw[h] at HC
 simp only[Bool.false_eq_true,if_false] at HC
 clear h
 have B1:=blk_second w (.cells #[.int .i64 i,.int .i64 g,.int .i64 f] 33) #[.pointer none,.int .i64 0,.int .i64 0,.int .i64 0,.string ⟨#[]⟩] 77
 have B2:=ext_second w (.cells #[.int .i64 i,.int .i64 g,.int .i64 f] 33) (.cells #[.pointer none,.int .i64 0,.int .i64 0,.int .i64 0,.string ⟨#[]⟩] 77)
 go_enter Tryz.func30, Tryz.ntmps30
 go_wp2_with (first
  |(go_at_call 77;refine(HC.out _).mono ?_;rintro e1 w1 ⟨rfl,hb1⟩;have HS2:=Lib.hid (B1.ext hb1);have HW2:=Lib.hid (B2.trans (hb1.mono B2.size));clear hb1 B1 B2)
  |(refine wpList_store_row rfl 77 (.tmp 4) (.tmp 13) rfl (w.heap.size+1) #[.pointer none,.int .i64 0,.int .i64 0,.int .i64 0,.string ⟨#[]⟩] #[.pointer none,.int .i64 0,.int .i64 0,.int .i64 0,.string ⟨#[]⟩] (by simp[go_sem,Act.eval]) (by simp[go_sem,Act.eval]) HS2.out sg_info rfl (by simp[Value.oneCell']) ?_))
 refine bodyPost_ret (v:=.tuple #[.agg #[.pointer none,.int .i64 0,.int .i64 0,.int .i64 0,.string ⟨#[]⟩],.int .i64 210]) (by exact results_cell2 rfl rfl rfl (HS2.out.set #[.pointer none,.int .i64 0,.int .i64 0,.int .i64 0,.string ⟨#[]⟩]) Tryz.underlying77 rfl sg_info) (by exact rfl) ?_
 exact⟨rfl,ext_setRow HW2.out (Nat.le_succ _) _⟩
end
end Dk
end Go.Proofs.YtlnbjikooadmoaaGreat
namespace Go.Proofs.YtlnbjikooadmoaaGreat
namespace Cr
open Go.RowKit
def hlf (c:Nat):Nat:=if c%2=1 then c/2 ^^^ 3988292384 else c/2
theorem hlf_lt {c:Nat} (h:c<4294967296):hlf c<4294967296:=by
 unfold hlf
 split
 ·exact Nat.xor_lt_two_pow (n:=32) (by omega) (by decide)
 ·omega
def hlfs:Nat->Nat->Nat
 |0,c=>c
 |n+1,c=>hlf (hlfs n c)
theorem hlfs_lt {c:Nat} (h:c<4294967296):∀n,hlfs n c<4294967296
 |0=>h
 |n+1=>hlf_lt (hlfs_lt h n)
def tb (i:Nat):Nat:=hlfs 8 i
theorem tb_lt {i:Nat} (h:i<256):tb i<4294967296:=hlfs_lt (by omega) 8
def rst (c b:Nat):Nat:=(c/256) ^^^ tb ((c%256) ^^^ b)
theorem x8_lt {c b:Nat} (hb:b<256):(c%256) ^^^ b<256:=Nat.xor_lt_two_pow (n:=8) (by omega) (by omega)
theorem rst_lt {c b:Nat} (h:c<4294967296) (hb:b<256):rst c b<4294967296:=Nat.xor_lt_two_pow (n:=32) (by omega) (tb_lt (x8_lt hb))
def fold (l:List UInt8) (c:Nat):Nat:=l.foldl (fun c b=>rst c b.toNat) c
theorem fold_lt:∀(l:List UInt8) (c:Nat),c<4294967296->fold l c<4294967296
 | [],_,h=>h
 |x::l,c,h=>by
  have:=fold_lt l (rst c x.toNat) (rst_lt h x.toNat_lt)
  exact this
theorem fold_take (l:List UInt8) (k c:Nat) (x:UInt8) (h:l[k]? =some x):fold (l.take (k+1)) c=rst (fold (l.take k) c) x.toNat:=by
 unfold fold
 rw[List.take_add_one,h,List.foldl_append];rfl
def crc (l:List UInt8):Nat:=4294967295 ^^^ fold l 4294967295
theorem crc_lt (l:List UInt8):crc l<4294967296:=Nat.xor_lt_two_pow (n:=32) (by decide) (fold_lt l _ (by decide))
set_option maxRecDepth 100000 in
theorem half_any (c:Nat) (w:World) (h:c<4294967296) :
  Calls Tryz.prog 127 #[.int .u32 (c:Int)] w fun e w'=>e=.returned (.int .u32 (hlf c:Int))/\w=w':=by
 have e1:bits .and .u32 (c:Int) 1=((c &&& 1:Nat):Int):=u32_and_nat c 1 h (by decide)
 rw[Nat.and_one_is_mod] at e1
 by_cases hc:c%2=1
 ·have e2:hlf c=c/2 ^^^ 3988292384:=if_pos hc
  have e3:bits .xor .u32 ((c/2:Nat):Int) 3988292384=((c/2 ^^^ 3988292384:Nat):Int):=u32_xor_nat (c/2) 3988292384 (by omega) (by decide)
  rw[hc] at e1
  have HE:=Lib.hid (And.intro e2 e3)
  clear e2 e3 hc
  go_enter Tryz.func127, Tryz.ntmps127
  go_wp2_with fail
  go_ret
  rw[HE.out.1,<-HE.out.2]
  exact⟨rfl,rfl⟩
 ·have e2:hlf c=c/2:=if_neg hc
  have hc2:c%2=0:=by omega
  rw[hc2] at e1
  have HE:=Lib.hid e2
  clear e2 hc hc2
  go_enter Tryz.func127, Tryz.ntmps127
  go_wp2_with fail
  go_ret
  rw[HE.out]
  exact⟨rfl,rfl⟩
def vu (l:List Nat):List Value:=l.map fun(n:Nat)=>Value.int .u32 (n:Int)
theorem length_vu (l:List Nat):(vu l).length=l.length:=List.length_map ..
theorem vu_at (l:List Nat) (k:Nat) (h:k<l.length):(vu l)[k]? =some (.int .u32 ((l.getD k 0:Nat):Int)):=by
 unfold vu;rw[List.getElem?_map,List.getD_eq_getElem?_getD,List.getElem?_eq_getElem h];rfl
theorem vu_set (l:List Nat) (k x:Nat):(vu l).set k (.int .u32 (x:Int))=vu (l.set k x):=by
 unfold vu;rw[List.map_set]
theorem vu_one (l:List Nat):∀v∈vu l,v.oneCell'=true:=by
 intro v hv;obtain⟨_,_,rfl⟩:=List.mem_map.1 hv;rfl
def n256 (g:Nat->Nat):List Nat:=(List.range 256).map g
theorem length_n256 (g:Nat->Nat):(n256 g).length=256:=by simp[n256]
theorem n256_at (g:Nat->Nat) (k:Nat) (h:k<256):(n256 g).getD k 0=g k:=by
 unfold n256
 rw[List.getD_eq_getElem?_getD,List.getElem?_map,List.getElem?_range (by omega)];rfl
theorem n256_congr {g h:Nat->Nat} (e:∀k,k<256->g k=h k):n256 g=n256 h:=by
 unfold n256
 apply List.map_congr_left
 intro k hk
 exact e k (by simpa using hk)
theorem n256_set (g:Nat->Nat) (k x:Nat):(n256 g).set k x=n256 fun j=>if j=k then x else g j:=by
 apply List.ext_getElem?
 intro j
 unfold n256
 rw[List.getElem?_set,List.getElem?_map,List.getElem?_map,List.length_map,List.length_range]
 by_cases hj:j<256
 ·rw[List.getElem?_range hj]
  by_cases he:k=j
  ·subst he;simp[hj]
  ·rw[if_neg he];simp[Ne.symm he]
 ·rw[List.getElem?_eq_none (by simp;omega)]
  by_cases he:k=j
  ·subst he;simp[hj]
  ·rw[if_neg he];rfl
theorem zeros_u:Array.replicate 256 (Value.int .u32 0)=(vu (n256 fun _=>0)).toArray:=by
 have e:vu (n256 fun _=>0)=List.replicate 256 (Value.int .u32 0):=by
  unfold vu n256
  rw[List.map_map]
  apply List.ext_getElem?
  intro j
  rw[List.getElem?_map,List.getElem?_replicate]
  by_cases hj:j<256
  ·rw[List.getElem?_range hj,if_pos hj];rfl
  ·rw[List.getElem?_eq_none (by simp;omega),if_neg hj];rfl
 rw[e,List.toArray_replicate]
theorem row_setU {t:TypeId} {w:World} {b k:Nat} {l:List Value} {u:Value} (h:w.heap[b]? =some (.cells l.toArray t (0,0))):(w.setCell ⟨b,k,none⟩ u).heap[b]? =some (.cells (l.set k u).toArray t (0,0)):=by
 simp[World.setCell,Array.getElem?_modify,h]
def Au (w:World) (b:Nat) (l:List Nat):Prop:=w.heap[b]? =some (.cells (vu l).toArray 151 (0,0))/\l.length=256
section
variable {w:World} {b:Nat} {l:List Nat} (h:Au w b l)
include h
theorem Au.lt:b<w.heap.size:=(Array.getElem?_eq_some_iff.1 h.1).1
theorem Au.cell (k:Nat) (hk:k<256):w.cell? ⟨b,k,none⟩=some (.int .u32 ((l.getD k 0:Nat):Int)):=by
 rw[cell_of_row w b k _ _ (0,0) h.1]
 simpa using vu_at l k (by rw[h.2];exact hk)
theorem Au.fz (k:Nat):w.frozen? ⟨b,k,none⟩=false:=frozen_of_row w b k _ _ h.1
theorem Au.set (k x:Nat):Au (w.setCell ⟨b,k,none⟩ (.int .u32 (x:Int))) b (l.set k x):=⟨by rw[row_setU h.1,vu_set],by rw[List.length_set];exact h.2⟩
theorem Au.below {w':World} {B:Nat} (hb:Below B w w') (hB:b<B):Au w' b l:=⟨(hb.block b hB).trans h.1,h.2⟩
theorem Au.range:w.rangeAt b 0 (vu l):=by
 intro j v hv
 have hj:j<256:=by have:=(List.getElem?_eq_some_iff.1 hv).1;rwa [length_vu,h.2] at this
 rw[Nat.zero_add,h.cell j hj,<-hv,vu_at l j (by rw[h.2];exact hj)]
end
theorem below_setU {B b:Nat} {w0:World}:∀(vs:List Value) (o:Nat) (w:World),Below B w0 w->B<=b->Below B w0 (w.setCells b o vs)
 | [],_,_,h,_=>h
 |v::r,o,_,h,hb=>below_setU r (o+1) _ (h.setCell (p:=⟨b,o,none⟩) hb v) hb
def TB:Array Value:=(vu (n256 tb)).toArray
theorem half_step (n c:Nat):hlfs (n+1) c=hlf (hlfs n c):=rfl
set_option maxHeartbeats 6400000 in
set_option maxRecDepth 100000 in
theorem table_any (w:World) :
  Calls Tryz.prog 93 #[] w fun e w'=>e=.returned (.agg TB)/\Below w.heap.size w w':=by
 have mixed:Tryz.prog.follows .mixedOrders=true:=by kernel_rfl
 have hz:(Tryz.prog.info? 151).map (fun i=>(i.zero,i.size))=some (some (.agg (Array.replicate 256 (.int .u32 0))),256):=by kernel_rfl
 have HZ:=Lib.hid hz
 clear hz
 go_enter Tryz.func93, Tryz.ntmps93
 go_wp2_with (refine wpList_alloc_zero rfl 151 rfl _ _ HZ.out ?_)
 rw[zeros_u]
 have h1:Au ((w.alloc (.cells (vu (n256 fun _=>0)).toArray 151)).alloc (.cells (vu (n256 fun _=>0)).toArray 151)) w.heap.size (n256 fun _=>0) :=
  ⟨(Below.heap_alloc _ _ _ (by simp)).trans (heap_alloc_new w _),length_n256 _⟩
 have h2:Au ((w.alloc (.cells (vu (n256 fun _=>0)).toArray 151)).alloc (.cells (vu (n256 fun _=>0)).toArray 151)) (w.heap.size+1) (n256 fun j=>if j<0 then tb j else 0):=by
  have:=heap_alloc_new (w.alloc (.cells (vu (n256 fun _=>0)).toArray 151)) (.cells (vu (n256 fun _=>0)).toArray 151)
  rw[show(w.alloc (.cells (vu (n256 fun _=>0)).toArray 151)).heap.size=w.heap.size+1 by simp] at this
  have e:(n256 fun j=>if j<0 then tb j else 0)=n256 fun _=>0:=n256_congr fun j _=>if_neg (by omega)
  rw[e]
  exact⟨this,length_n256 _⟩
 have h3:Below w.heap.size w ((w.alloc (.cells (vu (n256 fun _=>0)).toArray 151)).alloc (.cells (vu (n256 fun _=>0)).toArray 151)):=((Below.refl _ _).alloc (Nat.le_refl _) _).alloc (by simp) _
 have H0:Aside _:=And.intro h1 (And.intro h2 h3)
 clear h1 h2 h3
 generalize (w.alloc (.cells (vu (n256 fun _=>0)).toArray 151)).alloc (.cells (vu (n256 fun _=>0)).toArray 151)=w1 at *
 obtain⟨g0,hg0⟩:∃g0,g0=w.heap.size:=⟨_,rfl⟩
 obtain⟨g1,hg1⟩:∃g1,g1=w.heap.size+1:=⟨_,rfl⟩
 rw[<-hg1,<-hg0] at H0
 rw[<-hg1,<-hg0]
 have HG:=Lib.hid (And.intro hg0 hg1)
 clear hg0 hg1
 go_loopg [5] 256 (fun kx s5 wr=>∃(i:Nat),s5=.int .i64 (i:Int)/\i<=256/\256-i<=kx/\Aside (Au wr g0 (n256 fun _=>0)/\Au wr g1 (n256 fun j=>if j<i then tb j else 0)/\Below g0 w wr))
 case atStart=>exact⟨0,rfl,by omega,by omega,H0.out⟩
 case round =>
  clear H0
  obtain⟨i,rfl,hi,hix,H⟩:=hrel
  by_cases hlt:i<256
  ·have hu:IntKind.u32.wrap (i:Int)=(i:Int):=by rw[IntKind.wrap_u32];omega
   have hdec:decide ((i:Int)<256)=true:=decide_eq_true (by omega)
   go_wp2_with fail
   generalize wr=wo at *
   have hi0:=hlfs_lt (c:=i) (by omega) 0
   go_loopg [4,10] 8 (fun kj s4 s10 wx=>∃(j c:Nat),s10=.int .i64 (j:Int)/\s4=.int .u32 (c:Int)/\c<4294967296/\Hid (c=hlfs j i)/\j<=8/\8-j<=kj/\wo=wx)
   case atStart=>exact⟨0,i,rfl,rfl,by omega,Lib.hid rfl,by omega,by omega,rfl⟩
   case round =>
    obtain⟨j,c,rfl,rfl,hc,HCJ,hj,hjx,rfl⟩:=hrel
    by_cases hlt2:j<8
    ·have HF:=Lib.hid (half_any c wo hc)
     have hlt3:=hlf_lt hc
     have HC2:=Lib.hid (show hlf c=hlfs (j+1) i by rw[half_step,<-HCJ.out])
     go_wp2_with fail
     refine HF.out.mono ?_
     rintro e w2 ⟨rfl,rfl⟩
     go_wp2_with fail
     go_roundg (8-(j+1))
     case measure=>omega
     case rel=>exact⟨j+1,hlf c,by go_num,rfl,hlt3,HC2,by omega,by omega,rfl⟩
    ·obtain rfl:j=8:=by omega
     have hcell:=H.out.2.1.cell i hlt
     have hfz:=H.out.2.1.fz i
     have hset:=H.out.2.1.set i c
     rw[n256_set] at hset
     have e1:(n256 fun j=>if j=i then c else if j<i then tb j else 0)=n256 fun j=>if j<i+1 then tb j else 0:=n256_congr fun j _=>by
      by_cases he:j=i
      ·subst he;rw[if_pos rfl,if_pos (by omega)];exact HCJ.out
      ·rw[if_neg he]
       by_cases h3:j<i
       ·rw[if_pos h3,if_pos (by omega)]
       ·rw[if_neg h3,if_neg (by omega)]
     rw[e1] at hset
     have hne:g0≠g1:=by have:=HG.out;omega
     have ha:Au (wo.setCell ⟨g1,i,none⟩ (.int .u32 (c:Int))) g0 (n256 fun _=>0):=⟨(Below.heap_setCell wo ⟨g1,_,none⟩ _ g0 hne).trans H.out.1.1,length_n256 _⟩
     have hbb:=H.out.2.2.setCell (p:=⟨g1,i,none⟩) (show g0<=g1 by have:=HG.out;omega) (.int .u32 (c:Int))
     have HX:Aside _:=And.intro ha (And.intro hset hbb)
     clear e1 hset ha hbb H
     go_wp2_with fail
     go_roundg (256-(i+1))
     case measure=>omega
     case rel=>exact⟨i+1,by go_num,by omega,by omega,HX.out⟩
  ·obtain rfl:i=256:=by omega
   have e1:(n256 fun j=>if j<256 then tb j else 0)=n256 tb:=n256_congr fun j hj=>if_pos hj
   have h9:=H.out
   rw[e1] at h9
   have hrg:=h9.2.1.range
   have HRG2:=Lib.hid hrg
   obtain⟨Z,hZ⟩:∃Z,Z=vu (n256 tb):=⟨_,rfl⟩
   have hZl:Z.length=256:=by rw[hZ,length_vu,length_n256]
   have hth:wr.there g0 0 Z.toArray.size:=by
    intro j hj
    have hj':j<256:=by rw[List.size_toArray,hZl] at hj;exact hj
    rw[Nat.zero_add]
    exact⟨by rw[h9.1.cell j hj'];rfl,h9.1.fz j⟩
   have h1c:Z.toArray.all (·.oneCell')=true:=all_oneCell_toArray (by rw[hZ];exact vu_one _)
   have hrs:(wr.setCells g0 0 Z).rangeAt g0 0 Z:=World.rangeAt_setCells_same wr g0 0 Z (by intro j hj;exact hth j (by simpa using hj))
   have hbs:Below g0 w (wr.setCells g0 0 Z):=below_setU Z 0 wr h9.2.2 (Nat.le_refl _)
   have HTH:=Lib.hid hth
   have H1C:=Lib.hid h1c
   have HZL:=Lib.hid hZl
   have hszZ:Z.toArray.size=256:=by rw[List.size_toArray,hZl]
   have HSZ:=Lib.hid hszZ
   have HRS:=Lib.hid hrs
   have HBS:=Lib.hid hbs
   have HZ:=Lib.hid hZ
   rw[<-hZ] at HRG2
   clear h9 e1 H hrg hth h1c hZl hrs hbs hszZ hZ
   go_wp2_with (first|(refine wpList_load_mid rfl 151 (.tmp 2) rfl g1 0 (by simp[go_sem,Act.eval]) Z _ HRG2.out Tryz.underlying151 rfl (by rw[HZL.out];kernel_rfl) ?_)|(refine wpList_store_mid rfl 151 (.tmp 0) (.tmp 20) rfl g0 0 Z.toArray (by simp[go_sem,Act.eval]) (by simp[go_sem,Act.eval]) HTH.out (by rw[HSZ.out];kernel_rfl) H1C.out ?_))
   refine bodyPost_ret (v:=.agg Z.toArray) ?_ rfl ?_
   ·have hl:=run_loadVar_mid (P:=Tryz.prog) (wr.setCells g0 0 Z) g0 0 151 Z _ HRS.out Tryz.underlying151 rfl (by rw[HZL.out];kernel_rfl)
    exact results_cell (a:=0) (t:=151) (ad:=⟨g0,0,none⟩) (by rfl) (by simp[Act.put]) hl
   ·exact⟨by rw[HZ.out];rfl,HBS.out.mono (by have:=HG.out;omega)⟩
set_option maxHeartbeats 1600000 in
set_option maxRecDepth 100000 in
theorem rest_any (g c:Nat) (b:UInt8) (w:World) (h:Au w g (n256 tb)) (hc:c<4294967296) :
  Calls Tryz.prog 175 #[.pointer (some ⟨g,0,none⟩),.int .u32 (c:Int),.int .u8 (b.toNat:Int)] w fun e w'=>e=.returned (.int .u32 (rst c b.toNat:Int))/\w=w':=by
 have hb:=b.toNat_lt
 have hk:=x8_lt (c:=c) hb
 have e1:bits .xor .u8 ((c:Int)%256) (b.toNat:Int)=(((c%256) ^^^ b.toNat:Nat):Int):=by
  have:=u8_xor_nat (c%256) b.toNat (by omega) hb
  rw[<-this];rfl
 have hcell:=h.cell _ hk
 rw[n256_at _ _ hk] at hcell
 have e2:bits .xor .u32 ((c:Int)/256) ((tb ((c%256) ^^^ b.toNat):Nat):Int)=((rst c b.toNat:Nat):Int):=by
  have:=u32_xor_nat (c/256) (tb ((c%256) ^^^ b.toNat)) (by omega) (tb_lt hk)
  unfold rst
  rw[<-this];rfl
 have HE:=Lib.hid e2
 clear e2
 generalize (c%256) ^^^ b.toNat=k at *
 generalize tb k=T at *
 have hk2:(k:Int)<256:=by omega
 go_enter Tryz.func175, Tryz.ntmps175
 go_wp2_with fail
 go_ret
 exact⟨by rw[<-HE.out];rfl,rfl⟩
theorem tb_row (w:World):Au (w.alloc (.cells TB 151)) w.heap.size (n256 tb):=⟨heap_alloc_new w _,length_n256 _⟩
set_option maxHeartbeats 3200000 in
set_option maxRecDepth 100000 in
theorem more_any (s:ByteArray) (w:World) (hs:s.size<=1000000000) :
  Calls Tryz.prog 153 #[.agg TB,.int .u32 0,.string s] w fun e w'=>e=.returned (.int .u32 (crc s.data.toList:Int))/\Below w.heap.size w w':=by
 have mixed:Tryz.prog.follows .mixedOrders=true:=by kernel_rfl
 have e0:bits .xor .u32 4294967295 0=4294967295:=by decide
 have hrow:=Lib.hid (tb_row w)
 have hbel:=Lib.hid (ext_alloc w (.cells TB 151))
 obtain⟨Z,hZ⟩:∃Z,Z=TB:=⟨_,rfl⟩
 rw[<-hZ] at hrow hbel
 rw[<-hZ]
 clear hZ
 go_enter Tryz.func153, Tryz.ntmps153
 go_wp2_with (refine wpList_box_new rfl 151 (.tmp 0) rfl Z (by simp[go_sem,Act.eval]) ?_)
 generalize w.alloc (.cells Z 151)=w1 at *
 go_loopg [7,8] s.size (fun kx s7 s8 wr=>∃(k c:Nat),s8=.int .i64 (k:Int)/\s7=.int .u32 (c:Int)/\k<=s.size/\s.size-k<=kx/\c<4294967296/\Hid (c=fold (s.data.toList.take k) 4294967295)/\w1=wr)
 case atStart=>exact⟨0,4294967295,rfl,by first|rfl|(rw[e0];rfl),by omega,by omega,by omega,Lib.hid rfl,rfl⟩
 case round =>
  obtain⟨k,c,rfl,rfl,hk,hkx,hc,HC,rfl⟩:=hrel
  by_cases hlt:k<s.size
  ·have HF:=Lib.hid (rest_any w.heap.size c s[k] w1 hrow.out hc)
   have hcn:=rst_lt hc s[k].toNat_lt
   have HC2:=Lib.hid (show rst c s[k].toNat=fold (s.data.toList.take (k+1)) 4294967295 by
    rw[fold_take _ k _ s[k] (by rw[List.getElem?_eq_getElem (show k<s.data.toList.length from hlt)];rfl),<-HC.out])
   go_wp2_with fail
   refine HF.out.mono ?_
   rintro e w2 ⟨rfl,rfl⟩
   go_wp2_with fail
   go_roundg (s.size-(k+1))
   case measure=>omega
   case rel=>exact⟨k+1,rst c s[k].toNat,by go_num,rfl,by omega,by omega,hcn,HC2,rfl⟩
  ·obtain rfl:k=s.size:=by omega
   have e1:bits .xor .u32 4294967295 (c:Int)=((4294967295 ^^^ c:Nat):Int):=u32_xor_nat 4294967295 c (by decide) hc
   have HE:=Lib.hid e1
   clear e1
   go_wp2_with fail
   go_ret
   refine⟨?_,hbel.out⟩
   have h5:s.data.toList.take s.size=s.data.toList:=List.take_of_length_le (Nat.le_refl _)
   have h6:=HC.out
   rw[h5] at h6
   unfold crc
   rw[<-h6,<-HE.out];rfl
set_option maxHeartbeats 3200000 in
set_option maxRecDepth 100000 in
theorem of_any (s:ByteArray) (w:World) (hs:s.size<=1000000000) :
  Calls Tryz.prog 122 #[.agg TB,.string s] w fun e w'=>e=.returned (.int .u32 (crc s.data.toList:Int))/\Below w.heap.size w w':=by
 have mixed:Tryz.prog.follows .mixedOrders=true:=by kernel_rfl
 have hrow:=(tb_row w).range
 have hlen:(vu (n256 tb)).length=256:=by rw[length_vu,length_n256]
 have hbel:=ext_alloc w (.cells TB 151)
 have HM:=Lib.hid (more_any s (w.alloc (.cells TB 151)) hs)
 have HT:TB=(vu (n256 tb)).toArray:=rfl
 rw[HT] at HM hrow hbel ⊢
 have HBL:=Lib.hid hbel
 have HR:=Lib.hid hrow
 have HL:=Lib.hid hlen
 clear hrow hlen hbel HT
 generalize vu (n256 tb)=Z at *
 go_enter Tryz.func122, Tryz.ntmps122
 go_wp2_with (first|(refine wpList_box_new rfl 151 (.tmp 0) rfl Z.toArray (by simp[go_sem,Act.eval]) ?_)|(refine wpList_load_mid rfl 151 (.tmp 2) rfl w.heap.size 0 (by simp[go_sem,Act.eval]) Z _ HR.out Tryz.underlying151 rfl (by rw[HL.out];kernel_rfl) ?_))
 generalize w.alloc (.cells Z.toArray 151)=w1 at *
 refine HM.out.mono ?_
 rintro e w2 ⟨rfl,hb⟩
 have HB2:=Lib.hid (HBL.out.trans (hb.mono HBL.out.size))
 clear hb
 go_wp2_with fail
 go_ret
 exact⟨rfl,HB2.out⟩
end Cr
end Go.Proofs.YtlnbjikooadmoaaGreat
namespace Go.Proofs.YtlnbjikooadmoaaGreat
namespace Fm
open Go.RowKit
def le:Nat->Nat->List UInt8
 |0,_=>[]
 |k+1,n=>UInt8.ofNat (n%256)::le k (n/256)
theorem length_le:∀k n,(le k n).length=k
 |0,_=>rfl
 |k+1,n=>by rw[le,List.length_cons,length_le k]
theorem low8 (n:Nat):(n:Int)%256=((UInt8.ofNat (n%256)).toNat:Int):=by
 rw[UInt8.toNat_ofNat'];omega
theorem fits_any (n:Nat) (w:World) (h:n<4294967296) :
  Calls Tryz.prog 152 #[.int .i64 (n:Int),.int .i64 4] w fun e w'=>e=.returned (.bool true)/\w=w':=by
 have h1:(n:Int)/4294967296=0:=by omega
 have h2:(0:Int)<=(n:Int):=by omega
 go_enter Tryz.func152, Tryz.ntmps152
 go_wp2_with fail
 go_ret
 exact⟨rfl,rfl⟩
set_option maxHeartbeats 3200000 in
set_option maxRecDepth 100000 in
theorem fix_any (n:Nat) (w:World) (h:n<4294967296) :
  Calls Tryz.prog 121 #[.int .i64 (n:Int),.int .i64 4] w fun e w'=>e=.returned (.tuple #[.string ⟨(le 4 n).toArray⟩,.int .i64 0])/\Below w.heap.size w w':=by
 have mixed:Tryz.prog.follows .mixedOrders=true:=by kernel_rfl
 have HF:=Lib.hid (fits_any n w h)
 go_enter Tryz.func121, Tryz.ntmps121
 go_wp2_with fail
 refine HF.out.mono ?_
 rintro e w0 ⟨rfl,rfl⟩
 go_wp2_with (at_make;(refine makeB0 (n:=8) (by omega) (Nat.le_refl w.heap.size) ?_);intro w1 hown1 hg1 hz1)
 have hb1:Below w.heap.size w w1:=(Below.refl _ _).grown hg1 (Nat.le_refl _) (by simp)
 have HO:=Lib.hid (And.intro hown1 hb1)
 clear hown1 hg1 hb1
 go_loopg [0,6,21] 4 (fun kx s0 s6 s21 wr=>∃(j m:Nat) (acc:List UInt8),s21=.int .i64 (j:Int)/\s0=.int .i64 (m:Int)/\j<=4/\4-j<=kx/\m<4294967296/\acc.length<=10/\Hid (acc++le (4-j) m=le 4 n/\OwnB wr w.heap.size s6 acc/\Below w.heap.size w wr))
 case atStart=>exact⟨0,n,[],rfl,rfl,by omega,by omega,h,by simp,Lib.hid ⟨rfl,HO.out.1,HO.out.2⟩⟩
 case round =>
  clear HO
  obtain⟨j,m,acc,rfl,rfl,hj,hjx,hm,hacc,H⟩:=hrel
  by_cases hlt:j<4
  ·have hown:=H.out.2.1
   have hsz:=H.out.2.2.size
   go_wp2_with (at_builtin;refine appendB (UInt8.ofNat (m%256)) (low8 m) hown (by omega) hsz ?_;intro A1 n1 c1 w2 _ hown2 hb2 _ _)
   go_roundg (4-(j+1))
   case measure=>omega
   case rel =>
    refine⟨j+1,m/256,acc++[UInt8.ofNat (m%256)],by go_num,by go_num,by omega,by omega,by omega,?_,Lib.hid ⟨?_,hown2,H.out.2.2.trans hb2⟩⟩
    ·have:=congrArg List.length H.out.1
     rw[List.length_append,length_le,length_le] at this
     rw[List.length_append];simp;omega
    ·have h2:=H.out.1
     rw[show 4-j=(4-(j+1))+1 by omega,le] at h2
     rw[<-h2,List.append_assoc];rfl
  ·obtain rfl:j=4:=by omega
   have h3:=H.out
   rw[Nat.sub_self,le,List.append_nil] at h3
   obtain⟨e3,o3,b3⟩:=h3
   subst e3
   obtain⟨A,c,rfl,_,_,hrd⟩:=o3.rd
   have hs:=run_str (c:=c) hrd
   have HB:=Lib.hid b3
   clear H b3 o3 hrd
   go_wp2_with fail
   go_ret2
   exact⟨rfl,HB.out⟩
def by4 (l:List UInt8) (p:Nat):Nat:=(l.getD p 0).toNat
def u4 (l:List UInt8) (p:Nat):Nat:=by4 l p+256*(by4 l (p+1)+256*(by4 l (p+2)+256*by4 l (p+3)))
def upto (l:List UInt8) (p:Nat):Nat->Nat
 |0=>0
 |k+1=>upto l p k*256+by4 l (p+(3-k))
theorem by4_lt (l:List UInt8) (p:Nat):by4 l p<256:=(l.getD p 0).toNat_lt
theorem upto_4 (l:List UInt8) (p:Nat):upto l p 4=u4 l p:=by
 simp only[upto,u4,Nat.sub_zero,Nat.reduceSub,Nat.add_zero]
 omega
theorem u4_lt (l:List UInt8) (p:Nat):u4 l p<4294967296:=by
 have h0:=by4_lt l p;have h1:=by4_lt l (p+1);have h2:=by4_lt l (p+2);have h3:=by4_lt l (p+3)
 unfold u4;omega
theorem upto_lt (l:List UInt8) (p:Nat):∀k,k<=4->upto l p k<4294967296/\(k<4->upto l p k<16777216):=by
 intro k hk
 have h0:=by4_lt l p;have h1:=by4_lt l (p+1);have h2:=by4_lt l (p+2);have h3:=by4_lt l (p+3)
 rcases k with _|_|_|_|_|k<;>simp only[upto,Nat.sub_zero,Nat.reduceSub,Nat.add_zero,Nat.reduceAdd]<;>omega
theorem shl8 (a b:Nat) (ha:a<16777216) (hb:b<256):bits .or .u64 ((a:Int)*256) (b:Int)=((a*256+b:Nat):Int):=by
 have h1:=u64_or_nat (a*256) b (by omega) (by omega)
 have h2:(a*256 ||| b)=a*256+b:=by
  have:=Nat.shiftLeft_add_eq_or_of_lt (i:=8) (b:=b) (by omega) a
  rw[Nat.shiftLeft_eq] at this
  exact this.symm
 rw[h2] at h1
 rw[<-h1,Int.natCast_mul];rfl
theorem by4_get (s:ByteArray) (q:Nat) (h:q<s.size):by4 s.data.toList q=s[q].toNat:=by
 unfold by4
 rw[List.getD_eq_getElem?_getD,List.getElem?_eq_getElem (show q<s.data.toList.length from h)];rfl
set_option maxHeartbeats 3200000 in
set_option maxRecDepth 100000 in
theorem unfix_any (s:ByteArray) (p:Nat) (w:World) (h:p+4<=s.size) (hs:s.size<=1000000000) :
  Calls Tryz.prog 128 #[.string s,.int .i64 (p:Int),.int .i64 4] w fun e w'=>e=.returned (.tuple #[.int .i64 (u4 s.data.toList p:Int),.int .i64 ((p+4:Nat):Int),.int .i64 0])/\w=w':=by
 have mixed:Tryz.prog.follows .mixedOrders=true:=by kernel_rfl
 have h1: ¬ (p:Int)<0:=by omega
 have h2: ¬ (s.size:Int)<(p:Int):=by omega
 have h3: ¬ (s.size:Int)-(p:Int)<4:=by omega
 have h4:IntKind.i64.wrap ((s.size:Int)-(p:Int))=(s.size:Int)-(p:Int):=by rw[IntKind.wrap_i64];omega
 have hu4:=u4_lt s.data.toList p
 go_enter Tryz.func128, Tryz.ntmps128
 go_wp2_with fail
 clear h1 h2 h3 h4
 go_loopg [9,10] 4 (fun kx s9 s10 wr=>∃(i u:Nat),s10=.int .i64 ((i:Int)-1)/\s9=.int .u64 (u:Int)/\i<=4/\i<=kx/\Hid (u=upto s.data.toList p (4-i))/\w=wr)
 case atStart=>exact⟨4,0,rfl,rfl,by omega,by omega,Lib.hid rfl,rfl⟩
 case round =>
  obtain⟨i,u,rfl,rfl,hi,hix,HU,rfl⟩:=hrel
  rcases i with _|j
  ·have hU:=HU.out
   rw[Nat.sub_zero,upto_4] at hU
   subst hU
   have h5:(u4 s.data.toList p:Int)/9223372036854775808=0:=by omega
   have h6:IntKind.i64.wrap (u4 s.data.toList p:Int)=(u4 s.data.toList p:Int):=by rw[IntKind.wrap_i64];omega
   have h7:IntKind.i64.wrap ((p:Int)+4)=(p:Int)+4:=by rw[IntKind.wrap_i64];omega
   clear HU
   go_wp2_with fail
   go_ret3
   exact⟨by go_num,rfl⟩
  ·have hlo:=(upto_lt s.data.toList p (4-(j+1)) (by omega)).2 (by omega)
   rw[<-HU.out] at hlo
   have hq:p+j<s.size:=by omega
   have hb:=by4_get s (p+j) hq
   have hor:=shl8 u (by4 s.data.toList (p+j)) hlo (by4_lt _ _)
   have HU2:=Lib.hid (show u*256+by4 s.data.toList (p+j)=upto s.data.toList p (4-j) by
    rw[show 4-j=(4-(j+1))+1 by omega,upto,<-HU.out,show p+(3-(4-(j+1)))=p+j by omega])
   rw[hb] at hor HU2
   have e1:((j+1:Nat):Int)-1=(j:Int):=by omega
   rw[e1]
   have e2:IntKind.i64.wrap ((p:Int)+(j:Int))=((p+j:Nat):Int):=by rw[IntKind.wrap_i64];omega
   have e3:IntKind.u64.wrap ((u:Int)*256)=(u:Int)*256:=by rw[IntKind.wrap_u64];omega
   have e7:IntKind.u64.wrap (s[p+j].toNat:Int)=(s[p+j].toNat:Int):=by rw[IntKind.wrap_u64];have:=s[p+j].toNat_lt;omega
   have e4:((p+j:Nat):Int)<(s.size:Int):=by omega
   have e5:0<=(p:Int)+(j:Int):=by omega
   have e6:(p:Int)+(j:Int)<(s.size:Int):=by omega
   clear e1 hb HU
   go_wp2_with fail
   go_roundg j
   case measure=>omega
   case rel=>exact⟨j,u*256+s[p+j].toNat,by go_num,by go_num,by omega,by omega,HU2,rfl⟩
end Fm
end Go.Proofs.YtlnbjikooadmoaaGreat
namespace Go.Proofs.YtlnbjikooadmoaaGreat
namespace Fm
open Go.RowKit Cr
theorem known_yes (k:Nat) (w:World) (h:1<=k/\k<=4):Calls Tryz.prog 120 #[.int .i64 (k:Int)] w fun e w'=>e=.returned (.bool true)/\w=w':=by
 have h1:(1:Int)<=(k:Int):=by omega
 have h2:(k:Int)<=4:=by omega
 go_enter Tryz.func120, Tryz.ntmps120
 go_wp2_with fail
 go_ret
 exact⟨rfl,rfl⟩
theorem known_no (k:Nat) (w:World) (h: ¬ (1<=k/\k<=4)):Calls Tryz.prog 120 #[.int .i64 (k:Int)] w fun e w'=>e=.returned (.bool false)/\w=w':=by
 by_cases h1:(1:Int)<=(k:Int)
 ·have h2: ¬ (k:Int)<=4:=by omega
  go_enter Tryz.func120, Tryz.ntmps120
  go_wp2_with fail
  go_ret
  exact⟨rfl,rfl⟩
 ·go_enter Tryz.func120, Tryz.ntmps120
  go_wp2_with fail
  go_ret
  exact⟨rfl,rfl⟩
def fagg (k:Nat) (b:ByteArray) (p t:Nat):Value:=.agg #[.int .i64 (k:Int),.string b,.int .i64 (p:Int),.int .i64 (t:Int)]
def Fb (w:World) (g:Nat) (k:Int) (b:ByteArray) (p t:Int):Prop:=w.heap[g]? =some (.cells #[.int .i64 k,.string b,.int .i64 p,.int .i64 t] 92 (0,0))
section
variable {w w':World} {g:Nat} {k p t:Int} {b:ByteArray} (h:Fb w g k b p t)
include h
theorem Fb.lt:g<w.heap.size:=(Array.getElem?_eq_some_iff.1 h).1
theorem Fb.c0:w.cell? ⟨g,0,none⟩=some (.int .i64 k):=by rw[cell_of_row w g 0 _ _ (0,0) h];rfl
theorem Fb.c1:w.cell? ⟨g,1,none⟩=some (.string b):=by rw[cell_of_row w g 1 _ _ (0,0) h];rfl
theorem Fb.c2:w.cell? ⟨g,2,none⟩=some (.int .i64 p):=by rw[cell_of_row w g 2 _ _ (0,0) h];rfl
theorem Fb.c3:w.cell? ⟨g,3,none⟩=some (.int .i64 t):=by rw[cell_of_row w g 3 _ _ (0,0) h];rfl
theorem Fb.fz (j:Nat):w.frozen? ⟨g,j,none⟩=false:=frozen_of_row w g j _ _ h
theorem Fb.below {B:Nat} (hk:Below B w w') (hb:g<B):Fb w' g k b p t:=(hk.block g hb).trans h
theorem Fb.set1 (x:ByteArray):Fb (w.setCell ⟨g,1,none⟩ (.string x)) g k x p t:=by
 unfold Fb at *;simp[World.setCell,Array.getElem?_modify,h]
theorem Fb.set2 (x:Int):Fb (w.setCell ⟨g,2,none⟩ (.int .i64 x)) g k b x t:=by
 unfold Fb at *;simp[World.setCell,Array.getElem?_modify,h]
theorem Fb.set3 (x:Int):Fb (w.setCell ⟨g,3,none⟩ (.int .i64 x)) g k b p x:=by
 unfold Fb at *;simp[World.setCell,Array.getElem?_modify,h]
end
theorem Fb.new (w:World):Fb (w.alloc (.cells #[.int .i64 0,.string ⟨#[]⟩,.int .i64 0,.int .i64 0] 92)) w.heap.size 0 ⟨#[]⟩ 0 0:=heap_alloc_new w _
theorem below_fill4 {w w':World} {b B:Nat} {v0 v1 v2 v3:Value} (h:Below B w w') (hb:B<=b):Below B w ((((w'.setCell ⟨b,0,none⟩ v0).setCell ⟨b,1,none⟩ v1).setCell ⟨b,2,none⟩ v2).setCell ⟨b,3,none⟩ v3) :=
 (((h.setCell (p:=⟨b,0,none⟩) hb v0).setCell (p:=⟨b,1,none⟩) hb v1).setCell (p:=⟨b,2,none⟩) hb v2).setCell (p:=⟨b,3,none⟩) hb v3
def GF (s:ByteArray) (p:Nat):Prop :=
 p+5<=s.size/\(1<=by4 s.data.toList p/\by4 s.data.toList p<=4)/\u4 s.data.toList (p+1)<=60000/\p+9+u4 s.data.toList (p+1)<=s.size /\
  crc (s.extract p (p+5+u4 s.data.toList (p+1))).data.toList=u4 s.data.toList (p+5+u4 s.data.toList (p+1))
instance (s:ByteArray) (p:Nat):Decidable (GF s p):=by unfold GF;infer_instance
def fn (s:ByteArray) (p:Nat):Nat:=u4 s.data.toList (p+1)
def fbody (s:ByteArray) (p:Nat):ByteArray:=s.extract (p+5) (p+5+fn s p)
def fto (s:ByteArray) (p:Nat):Nat:=p+5+fn s p+4
def FrAns (s:ByteArray) (p:Nat) (e:Ending):Prop :=
 (GF s p/\e=.returned (.tuple #[fagg (by4 s.data.toList p) (fbody s p) p (fto s p),.int .i64 0]))∨(¬ GF s p/\ ∃x:Int,x≠0/\e=.returned (.tuple #[fagg 0 ⟨#[]⟩ 0 0,.int .i64 x]))
set_option maxHeartbeats 6400000 in
set_option maxRecDepth 100000 in
theorem get_any (g:Nat) (s:ByteArray) (p:Nat) (w:World) (ht:Au w g (n256 tb)) (hs:s.size<=1000000) (hp:p<=2000000) :
  Calls Tryz.prog 94 #[.pointer (some ⟨g,0,none⟩),.string s,.int .i64 (p:Int)] w fun e w'=>FrAns s p e/\Below w.heap.size w w':=by
 have mixed:Tryz.prog.follows .mixedOrders=true:=by kernel_rfl
 have HB0:=Lib.hid (ext_alloc w (.cells #[.int .i64 0,.string ⟨#[]⟩,.int .i64 0,.int .i64 0] 92))
 have q0: ¬ (p:Int)<0:=by omega
 by_cases h1:(s.size:Int)<(p:Int)
 ·have HN:=Lib.hid (show ¬ GF s p from fun h=>by have:=h.1;omega)
  go_enter Tryz.func94, Tryz.ntmps94
  go_wp2_with fail
  refine bodyPost_ret (v:=.tuple #[fagg 0 ⟨#[]⟩ 0 0,.int .i64 2]) (by simp[results,go_sem,fagg]) rfl ?_
  exact⟨.inr ⟨HN.out,2,by omega,rfl⟩,HB0.out⟩
 have h2:IntKind.i64.wrap ((s.size:Int)-(p:Int))=(s.size:Int)-(p:Int):=by rw[IntKind.wrap_i64];omega
 by_cases h3:(s.size:Int)-(p:Int)<5
 ·have HN:=Lib.hid (show ¬ GF s p from fun h=>by have:=h.1;omega)
  go_enter Tryz.func94, Tryz.ntmps94
  go_wp2_with fail
  refine bodyPost_ret (v:=.tuple #[fagg 0 ⟨#[]⟩ 0 0,.int .i64 4]) (by simp[results,go_sem,fagg]) rfl ?_
  exact⟨.inr ⟨HN.out,4,by omega,rfl⟩,HB0.out⟩
 have h4:IntKind.i64.wrap ((p:Int)+1)=((p+1:Nat):Int):=by rw[IntKind.wrap_i64];omega
 have HU1:=Lib.hid (unfix_any s (p+1) (w.alloc (.cells #[.int .i64 0,.string ⟨#[]⟩,.int .i64 0,.int .i64 0] 92)) (by omega) (by omega))
 have hps:p<s.size:=by omega
 have hps2:(p:Int)<(s.size:Int):=by omega
 have hk8:=by4_get s p hps
 have h64:wrap64 (s[p].toNat:Int)=(s[p].toNat:Int):=by have:=s[p].toNat_lt;unfold wrap64;omega
 have hfn:=u4_lt s.data.toList (p+1)
 have HFN:=Lib.hid (show fn s p=u4 s.data.toList (p+1) from rfl)
 rw[<-HFN.out] at HU1 hfn
 by_cases h5:1<=by4 s.data.toList p/\by4 s.data.toList p<=4
 ·have HK:=Lib.hid (known_yes (by4 s.data.toList p) (w.alloc (.cells #[.int .i64 0,.string ⟨#[]⟩,.int .i64 0,.int .i64 0] 92)) h5)
  rw[hk8] at HK
  by_cases h6:(60000:Int)<(fn s p:Int)
  ·have HN:=Lib.hid (show ¬ GF s p from fun h=>by have:=h.2.2.1;rw[<-HFN.out] at this;omega)
   clear h5 hk8
   generalize fn s p=N at *
   go_enter Tryz.func94, Tryz.ntmps94
   go_wp2_with fail
   refine HU1.out.mono ?_
   rintro e1 w1 ⟨rfl,rfl⟩
   go_wp2_with fail
   refine HK.out.mono ?_
   rintro e1 w1 ⟨rfl,rfl⟩
   go_wp2_with fail
   refine bodyPost_ret (v:=.tuple #[fagg 0 ⟨#[]⟩ 0 0,.int .i64 3]) (by simp[results,go_sem,fagg]) rfl ?_
   exact⟨.inr ⟨HN.out,3,by omega,rfl⟩,HB0.out⟩
  have h7:IntKind.i64.wrap ((s.size:Int)-(p:Int)-5)=(s.size:Int)-(p:Int)-5:=by rw[IntKind.wrap_i64];omega
  have h8:IntKind.i64.wrap ((s.size:Int)-(p:Int)-5-4)=(s.size:Int)-(p:Int)-5-4:=by rw[IntKind.wrap_i64];omega
  by_cases h9:(s.size:Int)-(p:Int)-5-4<(fn s p:Int)
  ·have HN:=Lib.hid (show ¬ GF s p from fun h=>by have:=h.2.2.2.1;rw[<-HFN.out] at this;omega)
   clear h5 hk8
   generalize fn s p=N at *
   go_enter Tryz.func94, Tryz.ntmps94
   go_wp2_with fail
   refine HU1.out.mono ?_
   rintro e1 w1 ⟨rfl,rfl⟩
   go_wp2_with fail
   refine HK.out.mono ?_
   rintro e1 w1 ⟨rfl,rfl⟩
   go_wp2_with fail
   refine bodyPost_ret (v:=.tuple #[fagg 0 ⟨#[]⟩ 0 0,.int .i64 4]) (by simp[results,go_sem,fagg]) rfl ?_
   exact⟨.inr ⟨HN.out,4,by omega,rfl⟩,HB0.out⟩
  have h10:IntKind.i64.wrap ((p:Int)+1+4+(fn s p:Int))=((p+5+fn s p:Nat):Int):=by rw[IntKind.wrap_i64];omega
  have HU2:=Lib.hid (unfix_any s (p+5+fn s p) (w.alloc (.cells #[.int .i64 0,.string ⟨#[]⟩,.int .i64 0,.int .i64 0] 92)) (by omega) (by omega))
  have hq:=u4_lt s.data.toList (p+5+fn s p)
  have HQ:=Lib.hid (show GF s p↔crc (s.extract p (p+5+fn s p)).data.toList=u4 s.data.toList (p+5+fn s p) from
   ⟨fun h=>h.2.2.2.2,fun h=>⟨by omega,h5,by rw[<-HFN.out];omega,by rw[<-HFN.out];omega,h⟩⟩)
  have htw:=ht.below HB0.out ht.lt
  have HLEN:=Lib.hid (show(vu (n256 tb)).length=256 by rw[length_vu,length_n256])
  have HTR:=Lib.hid (fun(wx:World) (hb:Below (w.heap.size+1) (w.alloc (.cells #[.int .i64 0,.string ⟨#[]⟩,.int .i64 0,.int .i64 0] 92)) wx)=>(htw.below hb (by have:=ht.lt;omega)).range)
  have HCR:=Lib.hid (fun(wx:World)=>of_any (s.extract p (p+5+fn s p)) wx (by rw[ByteArray.size_extract];omega))
  have HTB:=Lib.hid (show TB=(vu (n256 tb)).toArray from rfl)
  rw[HTB.out] at HCR
  have HF0:=Lib.hid (Fb.new w)
  have HSZ:=Lib.hid (show(w.alloc (.cells #[.int .i64 0,.string ⟨#[]⟩,.int .i64 0,.int .i64 0] 92)).heap.size=w.heap.size+1 by simp)
  have e1:0<=(p:Int):=by omega
  have e2:(p:Int)<=((p+5+fn s p:Nat):Int):=by omega
  have e3:((p+5+fn s p:Nat):Int)<=(s.size:Int):=by omega
  have e4:(p:Int)<=(p:Int)+5+(fn s p:Int):=by omega
  have e5:(p:Int)+5+(fn s p:Int)<=(s.size:Int):=by omega
  have e6:(p:Int)+1+4<=(p:Int)+5+(fn s p:Int):=by omega
  have e7:0<=(p:Int)+1+4:=by omega
  have HBD:=Lib.hid (show fbody s p=s.extract (p+5) (p+5+fn s p)/\fto s p=p+5+fn s p+4 from⟨rfl,rfl⟩)
  clear h5 htw
  generalize vu (n256 tb)=Z at *
  generalize hcr:crc (s.extract p (p+5+fn s p)).data.toList=C at *
  have hC:C<4294967296:=hcr▸crc_lt _
  clear hcr
  generalize u4 s.data.toList (p+5+fn s p)=V at *
  generalize fn s p=N at *
  by_cases hCV:C=V
  ·subst hCV
   have hbb:((C:Int) != (C:Int))=false:=by simp
   have h64c:IntKind.i64.wrap (C:Int)=(C:Int):=by rw[IntKind.wrap_i64];omega
   go_enter Tryz.func94, Tryz.ntmps94
   go_wp2_with fail
   refine HU1.out.mono ?_
   rintro e1 w1 ⟨rfl,rfl⟩
   go_wp2_with fail
   refine HK.out.mono ?_
   rintro e1 w1 ⟨rfl,rfl⟩
   go_wp2_with fail
   refine HU2.out.mono ?_
   rintro e1 w1 ⟨rfl,rfl⟩
   have HS0:=Lib.hid (And.intro (HTR.out (w.alloc (.cells #[.int .i64 0,.string ⟨#[]⟩,.int .i64 0,.int .i64 0] 92)).drew ⟨rfl,rfl,rfl,Nat.le_refl _,fun _ _=>rfl⟩) (show Below (w.heap.size+1) (w.alloc (.cells #[.int .i64 0,.string ⟨#[]⟩,.int .i64 0,.int .i64 0] 92)) (w.alloc (.cells #[.int .i64 0,.string ⟨#[]⟩,.int .i64 0,.int .i64 0] 92)).drew from⟨rfl,rfl,rfl,Nat.le_refl _,fun _ _=>rfl⟩))
   go_wp2_with fail
   generalize w.alloc (.cells #[.int .i64 0,.string ⟨#[]⟩,.int .i64 0,.int .i64 0] 92)=w1 at *
   have HUD:=Lib.hid Tryz.underlying151
   have hlz:(Tryz.prog.info? 151).map (·.size)=some Z.length:=by rw[HLEN.out];kernel_rfl
   have hud:=Tryz.underlying151
   go_region_held3 (fun wx=>wx.rangeAt g 0 Z/\Below (w.heap.size+1) w1 wx) (first|exact HS0.out|assumption) (first
    |(go_at_call 122;refine(HCR.out _).mono ?_;rintro e2 w2 ⟨rfl,hb2⟩;have hB2:=HS0.out.2.trans (hb2.mono (by have:=HS0.out.2.size;have:=HSZ.out;simp at *;omega));have hS2:=And.intro (HTR.out _ hB2) hB2))
   have hR:=HF0.out.below hS2.2 (by omega)
   have HR:=Lib.hid hR
   have HBE:=Lib.hid (HB0.out.trans (hS2.2.mono (by omega)))
   have r0:=hR.c0
   have r1:=hR.c1
   have r2:=hR.c2
   have r3:=hR.c3
   have f0:=hR.fz 0
   have f1:=hR.fz 1
   have f2:=hR.fz 2
   have f3:=hR.fz 3
   clear hR hS2 hB2 hb2 hlz hud
   go_wp2_with fail
   go_region_held3 (fun _=>True) (trivial) (fail)
   go_wp2_with fail
   have t1:IntKind.i64.wrap (s[p].toNat:Int)=(s[p].toNat:Int):=by rw[IntKind.wrap_i64];have:=s[p].toNat_lt;omega
   have t2:((p:Int)+1+4).toNat=p+5:=by omega
   have t3:((p:Int)+5+(N:Int)).toNat=p+5+N:=by omega
   refine bodyPost_ret (v:=.tuple #[fagg s[p].toNat (s.extract (p+5) (p+5+N)) p (p+5+N+4),.int .i64 0]) (by simp[results,go_sem,r0,r1,r2,r3,fagg,t1,t2,t3]) rfl ?_
   exact⟨.inl ⟨HQ.out.2 trivial,by rw[hk8,HBD.out.1,HBD.out.2]⟩,below_drewN (below_fill4 HBE.out (Nat.le_refl _)) 1⟩
  ·have hne: ¬ (C:Int)=(V:Int):=by omega
   have hbb:((C:Int) != (V:Int))=true:=by simp;omega
   have h64c:IntKind.i64.wrap (C:Int)=(C:Int):=by rw[IntKind.wrap_i64];omega
   go_enter Tryz.func94, Tryz.ntmps94
   go_wp2_with fail
   refine HU1.out.mono ?_
   rintro e1 w1 ⟨rfl,rfl⟩
   go_wp2_with fail
   refine HK.out.mono ?_
   rintro e1 w1 ⟨rfl,rfl⟩
   go_wp2_with fail
   refine HU2.out.mono ?_
   rintro e1 w1 ⟨rfl,rfl⟩
   have HS0:=Lib.hid (And.intro (HTR.out (w.alloc (.cells #[.int .i64 0,.string ⟨#[]⟩,.int .i64 0,.int .i64 0] 92)).drew ⟨rfl,rfl,rfl,Nat.le_refl _,fun _ _=>rfl⟩) (show Below (w.heap.size+1) (w.alloc (.cells #[.int .i64 0,.string ⟨#[]⟩,.int .i64 0,.int .i64 0] 92)) (w.alloc (.cells #[.int .i64 0,.string ⟨#[]⟩,.int .i64 0,.int .i64 0] 92)).drew from⟨rfl,rfl,rfl,Nat.le_refl _,fun _ _=>rfl⟩))
   go_wp2_with fail
   generalize w.alloc (.cells #[.int .i64 0,.string ⟨#[]⟩,.int .i64 0,.int .i64 0] 92)=w1 at *
   have HUD:=Lib.hid Tryz.underlying151
   have hlz:(Tryz.prog.info? 151).map (·.size)=some Z.length:=by rw[HLEN.out];kernel_rfl
   have hud:=Tryz.underlying151
   go_region_held3 (fun wx=>wx.rangeAt g 0 Z/\Below (w.heap.size+1) w1 wx) (first|exact HS0.out|assumption) (first
    |(go_at_call 122;refine(HCR.out _).mono ?_;rintro e2 w2 ⟨rfl,hb2⟩;have hB2:=HS0.out.2.trans (hb2.mono (by have:=HS0.out.2.size;have:=HSZ.out;simp at *;omega));have hS2:=And.intro (HTR.out _ hB2) hB2))
   have hR:=HF0.out.below hS2.2 (by omega)
   have HR:=Lib.hid hR
   have HBE:=Lib.hid (HB0.out.trans (hS2.2.mono (by omega)))
   have r0:=hR.c0
   have r1:=hR.c1
   have r2:=hR.c2
   have r3:=hR.c3
   have f0:=hR.fz 0
   have f1:=hR.fz 1
   have f2:=hR.fz 2
   have f3:=hR.fz 3
   clear hR hS2 hB2 hb2 hlz hud
   go_wp2_with fail
   refine bodyPost_ret (v:=.tuple #[fagg 0 ⟨#[]⟩ 0 0,.int .i64 7]) (by simp[results,go_sem,r0,r1,r2,r3,fagg]) rfl ?_
   exact⟨.inr ⟨fun h=>hCV (HQ.out.1 h),7,by omega,rfl⟩,below_fill4 HBE.out (Nat.le_refl _)⟩
 ·have HN:=Lib.hid (show ¬ GF s p from fun h=>h5 h.2.1)
  have HK:=Lib.hid (known_no (by4 s.data.toList p) (w.alloc (.cells #[.int .i64 0,.string ⟨#[]⟩,.int .i64 0,.int .i64 0] 92)) h5)
  rw[hk8] at HK
  clear h5 hk8
  generalize fn s p=N at *
  go_enter Tryz.func94, Tryz.ntmps94
  go_wp2_with fail
  refine HU1.out.mono ?_
  rintro e1 w1 ⟨rfl,rfl⟩
  go_wp2_with fail
  refine HK.out.mono ?_
  rintro e1 w1 ⟨rfl,rfl⟩
  go_wp2_with fail
  refine bodyPost_ret (v:=.tuple #[fagg 0 ⟨#[]⟩ 0 0,.int .i64 160]) (by simp[results,go_sem,fagg]) rfl ?_
  exact⟨.inr ⟨HN.out,160,by omega,rfl⟩,HB0.out⟩
end Fm
end Go.Proofs.YtlnbjikooadmoaaGreat
namespace Go.Proofs.YtlnbjikooadmoaaGreat
namespace Fm
open Go.RowKit Cr
def frA (k:UInt8) (b:ByteArray):ByteArray:=⟨#[k]⟩++⟨(le 4 b.size).toArray⟩++b
def frB (k:UInt8) (b:ByteArray):ByteArray:=frA k b++⟨(le 4 (crc (frA k b).data.toList)).toArray⟩
theorem size_frA (k:UInt8) (b:ByteArray):(frA k b).size=b.size+5:=by
 unfold frA
 rw[ByteArray.size_append,ByteArray.size_append]
 show 1+(le 4 b.size).toArray.size+b.size=_
 rw[List.size_toArray,length_le];omega
set_option maxHeartbeats 3200000 in
set_option maxRecDepth 100000 in
theorem put_any (k:UInt8) (b:ByteArray) (w:World) (hk:1<=k.toNat/\k.toNat<=4) (hb:b.size<=60000) :
  Calls Tryz.prog 85 #[.int .i64 (k.toNat:Int),.string b] w fun e w'=>e=.returned (.tuple #[.string (frB k b),.int .i64 0])/\Below w.heap.size w w':=by
 have mixed:Tryz.prog.follows .mixedOrders=true:=by kernel_rfl
 have HK:=Lib.hid (known_yes k.toNat w hk)
 have HF:=Lib.hid (fix_any b.size w (by omega))
 have q1: ¬ (60000:Int)<(b.size:Int):=by omega
 have q2:(k.toNat:Int)%256=(k.toNat:Int):=by omega
 go_enter Tryz.func85, Tryz.ntmps85
 go_wp2_with fail
 refine HK.out.mono ?_
 rintro e1 w1 ⟨rfl,rfl⟩
 go_wp2_with fail
 refine HF.out.mono ?_
 rintro e2 w2 ⟨rfl,hb2⟩
 have hrd:Rd (w2.alloc (.cells #[.int .u8 (k.toNat:Int)] 5)) (w2.alloc (.cells #[.int .u8 (k.toNat:Int)] 5)).heap.size 1 (some ⟨w2.heap.size,0,none⟩) 1 (bv [k]):=Rd.of_own (World.ownsRow_lit (base:=w2.heap.size) (e:=5) (size:=1) w2 #[.int .u8 (k.toNat:Int)] 1 (Nat.le_refl _) (by simp[maxLen]) rfl)
 have hs:=run_str (l:=[k]) (c:=1) hrd
 have HW2:=Lib.hid (hb2.trans ((ext_alloc w2 (.cells #[.int .u8 (k.toNat:Int)] 5)).mono hb2.size))
 have hl1: ¬ 9223372036854775807<1+(le 4 b.size).length:=by rw[length_le];omega
 have hl2: ¬ 9223372036854775807<1+(le 4 b.size).length+b.size:=by rw[length_le];omega
 have HA:=Lib.hid (show({ data:=#[k] }:ByteArray)++{ data:=(le 4 b.size).toArray }++b=frA k b from rfl)
 have HOF:=Lib.hid (fun(wx:World)=>of_any (frA k b) wx (by rw[size_frA];omega))
 have HFX:=Lib.hid (fun(wx:World)=>fix_any (crc (frA k b).data.toList) wx (crc_lt _))
 have HTA:=Lib.hid (table_any (w2.alloc (.cells #[.int .u8 (k.toNat:Int)] 5)))
 have hc:=crc_lt (frA k b).data.toList
 have HB:=Lib.hid (show frB k b=frA k b++⟨(le 4 (crc (frA k b).data.toList)).toArray⟩ from rfl)
 have hsz:=size_frA k b
 clear hb2 hrd
 generalize crc (frA k b).data.toList=C at *
 have h64:IntKind.i64.wrap (C:Int)=(C:Int):=by rw[IntKind.wrap_i64];omega
 go_wp2_with fail
 rw[HA.out]
 generalize frA k b=F at *
 refine HTA.out.mono ?_
 rintro e3 w3 ⟨rfl,hb3⟩
 have HW3:=Lib.hid (HW2.out.trans (hb3.mono HW2.out.size))
 clear hb3 hs hl1 hl2
 go_wp2_with fail
 refine(HOF.out w3).mono ?_
 rintro e4 w4 ⟨rfl,hb4⟩
 have HW4:=Lib.hid (HW3.out.trans (hb4.mono HW3.out.size))
 clear hb4
 go_wp2_with fail
 refine(HFX.out w4).mono ?_
 rintro e5 w5 ⟨rfl,hb5⟩
 have HW5:=Lib.hid (HW4.out.trans (hb5.mono HW4.out.size))
 have hl3: ¬ 9223372036854775807<F.size+(le 4 C).length:=by rw[length_le];omega
 clear hb5
 go_wp2_with fail
 go_ret2
 exact⟨by rw[HB.out];rfl,HW5.out⟩
set_option maxHeartbeats 3200000 in
set_option maxRecDepth 100000 in
theorem Get_any (s:ByteArray) (p:Nat) (w:World) (hs:s.size<=1000000) (hp:p<=2000000) :
  Calls Tryz.prog 42 #[.string s,.int .i64 (p:Int)] w fun e w'=>FrAns s p e/\Below w.heap.size w w':=by
 have mixed:Tryz.prog.follows .mixedOrders=true:=by kernel_rfl
 have hz:(Tryz.prog.info? 151).map (fun i=>(i.zero,i.size))=some (some (.agg (Array.replicate 256 (.int .u32 0))),256):=by kernel_rfl
 have hsz:(Tryz.prog.info? 151).map (·.size)=some 256:=by kernel_rfl
 have HZ:=Lib.hid hz
 have HSI:=Lib.hid hsz
 have HT:=Lib.hid (table_any (w.alloc (.cells #[.int .i64 0,.string ⟨#[]⟩,.int .i64 0,.int .i64 0] 92)))
 have HB0:=Lib.hid (ext_alloc w (.cells #[.int .i64 0,.string ⟨#[]⟩,.int .i64 0,.int .i64 0] 92))
 have HF0:=Lib.hid (Fb.new w)
 have HTL:=Lib.hid (show TB.size=256 by unfold TB;rw[List.size_toArray,length_vu,length_n256])
 have HT1:=Lib.hid (show TB.all (·.oneCell')=true from all_oneCell_toArray (vu_one _))
 have HLT:=Lib.hid (show w.heap.size<(w.alloc (.cells #[.int .i64 0,.string ⟨#[]⟩,.int .i64 0,.int .i64 0] 92)).heap.size by simp)
 clear hz hsz
 go_enter Tryz.func42, Tryz.ntmps42
 go_wp2_with fail
 generalize w.alloc (.cells #[.int .i64 0,.string ⟨#[]⟩,.int .i64 0,.int .i64 0] 92)=w0 at *
 refine HT.out.mono ?_
 rintro e1 w1 ⟨rfl,hb1⟩
 have HG:=Lib.hid (get_any w1.heap.size s p (w1.alloc (.cells TB 151)) (tb_row w1) hs hp)
 have HB1:=Lib.hid (HB0.out.trans (hb1.mono HB0.out.size))
 have HB2:=Lib.hid (HB1.out.trans ((ext_alloc w1 (.cells TB 151)).mono HB1.out.size))
 have HF2:=Lib.hid ((HF0.out.below hb1 HLT.out).below (ext_alloc w1 (.cells TB 151)) (Nat.lt_of_lt_of_le HLT.out hb1.size))
 have HL2:=Lib.hid (show w.heap.size<(w1.alloc (.cells TB 151)).heap.size by have:=HLT.out;have:=hb1.size;simp;omega)
 clear hb1 HT
 generalize TB=Z at *
 go_wp2_with (first|(refine wpList_alloc_zero rfl 151 rfl _ _ HZ.out ?_)|(refine wpList_store_new w1 (Array.replicate 256 (.int .u32 0)) rfl 151 (.tmp 6) (.tmp 7) rfl Z (by simp[go_sem,Act.eval]) (by simp[go_sem,Act.eval]) (by rw[HTL.out];exact HSI.out) (by rw[HTL.out];simp) HT1.out ?_))
 generalize w1.alloc (.cells Z 151)=w2 at *
 refine HG.out.mono ?_
 rintro e3 w3 ⟨ha,hb3⟩
 have HB3:=Lib.hid (HB2.out.trans (hb3.mono HB2.out.size))
 have HR3:=Lib.hid (HF2.out.below hb3 HL2.out)
 clear hb3 HG
 rcases ha with ⟨hgf,rfl⟩|⟨hgf,x,hx,rfl⟩
 ·have HGF:=Lib.hid hgf
  have hR:=HR3.out
  have r0:=hR.c0
  have r1:=hR.c1
  have r2:=hR.c2
  have r3:=hR.c3
  have f0:=hR.fz 0
  have f1:=hR.fz 1
  have f2:=hR.fz 2
  have f3:=hR.fz 3
  clear hR
  unfold fagg
  go_wp2_with fail
  refine bodyPost_ret (v:=.tuple #[fagg (by4 s.data.toList p) (fbody s p) p (fto s p),.int .i64 0]) (by simp[results,go_sem,r0,r1,r2,r3,fagg]) rfl ?_
  exact⟨.inl ⟨HGF.out,rfl⟩,below_fill4 HB3.out (Nat.le_refl _)⟩
 ·have HGF:=Lib.hid (And.intro hgf hx)
  have hR:=HR3.out
  have r0:=hR.c0
  have r1:=hR.c1
  have r2:=hR.c2
  have r3:=hR.c3
  have f0:=hR.fz 0
  have f1:=hR.fz 1
  have f2:=hR.fz 2
  have f3:=hR.fz 3
  clear hR
  unfold fagg
  go_wp2_with fail
  refine bodyPost_ret (v:=.tuple #[fagg 0 ⟨#[]⟩ 0 0,.int .i64 x]) (by simp[results,go_sem,r0,r1,r2,r3,fagg]) rfl ?_
  exact⟨.inr ⟨HGF.out.1,x,HGF.out.2,rfl⟩,below_fill4 HB3.out (Nat.le_refl _)⟩
end Fm
end Go.Proofs.YtlnbjikooadmoaaGreat
namespace Go.Proofs.YtlnbjikooadmoaaGreat
namespace Dk
open Go.RowKit Hd Fm
section
variable {w w':World} {S:Nat->Prop} {bd gN gS:Nat} {v:Value} {D:DS}
set_option maxHeartbeats 3200000 in
set_option maxRecDepth 100000 in
theorem ssync_go (h:DiskAt w S bd D) {i g f:Int} {s:ByteArray} {b:Nat} {p:ByteArray×ByteArray} (ho:D.off=false) (hl:lk s D.now=some b) (hp:D.fl b=some p) :
  Calls Tryz.prog 53 #[.agg (sgc bd i g f s)] w fun e w'=>e=.returned (.int .i64 (opE D))/\ ∃S',DiskAt w' S' bd (opS true (setF b (p.2,p.2)) D)/\Gr S w S' w':=by
 have HS:=Lib.hid (sync_go (h.ext (ext_alloc w (.cells (sgc bd i g f s) 77))) ho hl hp)
 have HG:=Lib.hid (Gr.alloc (S:=S) (w:=w) (.cells (sgc bd i g f s) 77))
 clear h ho hl hp
 unfold sgc at *
 go_enter Tryz.func53, Tryz.ntmps53
 go_wp2_with (go_at_call 64;refine HS.out.mono ?_;rintro e5 w5 ⟨rfl,S5,hD5,hG5⟩;have HD5:=Lib.hid hD5;have HG5:=Lib.hid hG5;clear hD5 hG5)
 go_ret
 exact⟨rfl,S5,HD5.out,HG.out.trans HG5.out⟩
set_option maxHeartbeats 3200000 in
set_option maxRecDepth 100000 in
theorem sput_go (h:DiskAt w S bd D) {i g f:Int} {s body:ByteArray} {k:UInt8} {b:Nat} {p:ByteArray×ByteArray} (ho:D.off=false) (hl:lk s D.now=some b) (hp:D.fl b=some p) (hk:1<=k.toNat/\k.toNat<=4) (hb:body.size<=60000)
  (h1:p.2.size+(body.size+9)<=1000000) (h2:(body.size:Int)+9+(usedD D:Int)<=D.cap) :
  Calls Tryz.prog 37 #[.agg (sgc bd i g f s),.int .i64 (k.toNat:Int),.string body] w fun e w'=>e=.returned (.int .i64 (opE D))/\ ∃S',DiskAt w' S' bd (opS false (setF b (p.1,p.2++frB k body)) D)/\Gr S w S' w':=by
 have hsz:(frB k body).size=body.size+9:=by
  unfold frB
  rw[ByteArray.size_append,size_frA]
  show _+(le 4 _).toArray.size=_
  rw[List.size_toArray,length_le]
 have HP:=Lib.hid (fun w=>put_any k body w hk hb)
 have HS:=Lib.hid (show ∀wx,DiskAt wx S bd D->Calls Tryz.prog 28 #[.pointer (some ⟨bd,0,none⟩),.string s,.string (frB k body)] wx fun e w'=>e=.returned (.int .i64 (opE D))/\ ∃S',DiskAt w' S' bd (opS false (setF b (p.1,p.2++frB k body)) D)/\Gr S wx S' w' from
  fun wx hx=>append_go hx ho hl hp (by rw[hsz];exact h1) (by rw[hsz];push_cast;omega))
 have HD:=Lib.hid (fun w1 hb=>h.ext (w':=w1) hb)
 clear h ho hl hp h1 h2 hk hb hsz
 unfold sgc
 generalize frB k body=F at *
 have B0:=Blk.new w #[.pointer (some ⟨bd,0,none⟩),.int .i64 i,.int .i64 g,.int .i64 f,.string s] 77
 have B2:=ext_alloc w (.cells #[.pointer (some ⟨bd,0,none⟩),.int .i64 i,.int .i64 g,.int .i64 f,.string s] 77)
 go_enter Tryz.func37, Tryz.ntmps37
 go_wp2_with (first
  |(go_at_call 85;refine(HP.out _).mono ?_;rintro e1 w1 ⟨rfl,hb1⟩;have HB1:=Lib.hid (B0.ext hb1);have HW1:=Lib.hid (B2.trans (hb1.mono B2.size));clear hb1 B0 B2;have k0:=HB1.out.cell 0 (v:=.pointer (some ⟨bd,0,none⟩)) rfl;have k4:=HB1.out.cell 4 (v:=.string s) rfl)
  |(go_at_call 28;refine(HS.out _ (HD.out _ HW1.out)).mono ?_;rintro e5 w5 ⟨rfl,S5,hD5,hG5⟩;have HD5:=Lib.hid hD5;have HG5:=Lib.hid hG5;clear hD5 hG5))
 go_ret
 exact⟨rfl,S5,HD5.out,(Gr.of_below HW1.out).trans HG5.out⟩
end
end Dk
end Go.Proofs.YtlnbjikooadmoaaGreat
namespace Go.Proofs
open Go.Shelf
def Tryz.lays170_ren:Go.Shelf.Ren:=⟨fun|170=>70|n=>n,fun|70=>118|3=>3|0=>0|72=>120|37=>96|5=>5|n=>n,fun|n=>n⟩
theorem Tryz.lays170:Go.Proofs.Lays.n170 Tryz.prog Tryz.lays170_ren:={
 mixed:=by kernel_rfl
 f170:=Tryz.func70.trans (congrArg some (by kernel_rfl))
 t0:=Tryz.underlying0
 a0:=Tryz.isAgg0
 z0:=Tryz.sizeOf0
 v0:=Tryz.zeroValue0
 t3:=Tryz.underlying3
 a3:=Tryz.isAgg3
 z3:=Tryz.sizeOf3
 v3:=Tryz.zeroValue3
 t37:=Tryz.underlying96
 a37:=Tryz.isAgg96
 z37:=Tryz.sizeOf96
 v37:=Tryz.zeroValue96
 t70:=Tryz.underlying118
 a70:=Tryz.isAgg118
 z70:=Tryz.sizeOf118
 v70:=Tryz.zeroValue118
 t72:=Tryz.underlying120
 a72:=Tryz.isAgg120
 z72:=Tryz.sizeOf120
 v72:=Tryz.zeroValue120 }
open Go.RowKit in
theorem Tryz.Builder_Len (B b:Nat) (bs:List Value) (w:World) (h:Lib.IsBuilder 120 5 B b bs w) :
  Calls Tryz.prog 70 #[.pointer (some ⟨b,0,none⟩)] w fun e w'=>e=.returned (.int .i64 bs.length)/\w'=w:=Any.Builder_Len Tryz.lays170 B b bs w h
def Tryz.lays169_ren:Go.Shelf.Ren:=⟨fun|169=>72|n=>n,fun|70=>118|9=>9|0=>0|72=>120|37=>96|127=>170|3=>3|5=>5|n=>n,fun|n=>n⟩
theorem Tryz.lays169:Go.Proofs.Lays.n169 Tryz.prog Tryz.lays169_ren:={
 mixed:=by kernel_rfl
 f169:=Tryz.func72.trans (congrArg some (by kernel_rfl))
 t0:=Tryz.underlying0
 a0:=Tryz.isAgg0
 z0:=Tryz.sizeOf0
 v0:=Tryz.zeroValue0
 t3:=Tryz.underlying3
 a3:=Tryz.isAgg3
 z3:=Tryz.sizeOf3
 v3:=Tryz.zeroValue3
 t9:=Tryz.underlying9
 a9:=Tryz.isAgg9
 z9:=Tryz.sizeOf9
 v9:=Tryz.zeroValue9
 t37:=Tryz.underlying96
 a37:=Tryz.isAgg96
 z37:=Tryz.sizeOf96
 v37:=Tryz.zeroValue96
 t70:=Tryz.underlying118
 a70:=Tryz.isAgg118
 z70:=Tryz.sizeOf118
 v70:=Tryz.zeroValue118
 t72:=Tryz.underlying120
 a72:=Tryz.isAgg120
 z72:=Tryz.sizeOf120
 v72:=Tryz.zeroValue120
 t127:=Tryz.underlying170
 a127:=Tryz.isAgg170
 z127:=Tryz.sizeOf170
 v127:=Tryz.zeroValue170 }
theorem Tryz.Builder_Extra_169:Builder.Extra Tryz.prog Tryz.lays169_ren:={
 sizeBuilder:=by kernel_rfl
 liesBuilder:=by kernel_rfl
 t5:=Tryz.underlying5
 a5:=Tryz.isAgg5
 z5:=Tryz.sizeOf5
 v5:=Tryz.zeroValue5
 infoByte:=by kernel_rfl
 cellsByte:=by kernel_rfl
 sizeByte:=by kernel_rfl
 neB5:=by decide }
open Go.RowKit in
theorem Tryz.Builder_String_any (B b:Nat) (l:List UInt8) (w:World) (h:Lib.IsBuilder 120 5 B b (Lib.byteCells l) w) (hBw:B<=w.heap.size) :
  Calls Tryz.prog 72 #[.pointer (some ⟨b,0,none⟩)] w fun e w'=>e=.returned (.string ⟨l.toArray⟩)/\Below B w w':=Any.Builder_String_any Tryz.lays169 Tryz.Builder_Extra_169 B b l w h hBw
end Go.Proofs
namespace Go.Proofs.YtlnbjikooadmoaaGreat
namespace Bd
open Go.RowKit
def Bb (w:World) (B b:Nat) (l:List UInt8):Prop:=Lib.IsBuilder 120 5 B b (bv l) w
theorem bb_size:(Tryz.prog.info? 120).map (·.size)=some 2:=by kernel_rfl
theorem bb_lies:liesAt Tryz.prog Tryz.prog.depth 120 (2/Tryz.prog.cellsOf 120) 0 120 1=true:=by kernel_rfl
theorem bb_ne:120≠5:=by decide
theorem bb_u:Tryz.prog.underlying 118=some (.pointer 120):=by kernel_rfl
theorem bb_p:Tryz.prog.underlying 213=some .unsafePointer:=by kernel_rfl
set_option maxHeartbeats 1600000 in
set_option maxRecDepth 100000 in
theorem copyCheck_used (b:Nat) (w:World) (h0:w.cell? ⟨b,0,none⟩=some (.pointer (some ⟨b,0,none⟩))) :
  Calls Tryz.prog 108 #[.pointer (some ⟨b,0,none⟩)] w fun e w'=>e=.returned (.tuple #[])/\w'=w:=by
 obtain⟨j,hj,_⟩:=Option.map_eq_some_iff.1 bb_size
 go_enter Tryz.func108, Tryz.ntmps108
 go_wp2
 rw[Lib.run_neq_ptr_same w _ bb_u hj]
 go_wp2
 go_end0
 exact⟨rfl,rfl⟩
set_option maxHeartbeats 1600000 in
set_option maxRecDepth 100000 in
theorem copyCheck_fresh (b:Nat) (w:World) (h0:w.cell? ⟨b,0,none⟩=some (.pointer none)) (hsh:w.shape? b=some (120,2)) (hfz:w.frozen? ⟨b,0,none⟩=false) :
  Calls Tryz.prog 108 #[.pointer (some ⟨b,0,none⟩)] w fun e w'=>e=.returned (.tuple #[])/\w'=w.setCell ⟨b,0,none⟩ (.pointer (some ⟨b,0,none⟩)):=by
 obtain⟨j,hj,hjs⟩:=Option.map_eq_some_iff.1 bb_size
 go_enter Tryz.func108, Tryz.ntmps108
 go_wp2
 rw[Lib.run_to_unsafe w ⟨b,0,none⟩ bb_u bb_p hj (by rw[hjs];decide) hsh (Nat.zero_lt_succ 1)]
 simp only[Result.andThen]
 rw[Oper.upon_value]
 go_wp2
 rw[run_callFunc_extern Tryz.func144 (by kernel_rfl) (by kernel_rfl) (by kernel_rfl) (e:=Extern.AbiNoEscape.same) (by kernel_rfl)]
 rw[Lib.run_noEscape]
 simp only[Result.andThen]
 rw[Oper.upon_value]
 go_wp2
 rw[Lib.run_from_unsafe w ⟨b,0,none⟩ bb_p bb_u hj hsh bb_lies]
 simp only[Result.andThen]
 rw[Oper.upon_value]
 go_wp2
 go_end0
 exact⟨rfl,rfl⟩
theorem copyCheck_any (B b:Nat) (l:List UInt8) (w:World) (h:Bb w B b l) :
  Calls Tryz.prog 108 #[.pointer (some ⟨b,0,none⟩)] w fun e w'=>e=.returned (.tuple #[])/\(Lib.BuilderAt 120 5 B b (.pointer (some ⟨b,0,none⟩)) (bv l) w'/\Below B w w'):=by
 rcases h with h|h
 ·refine(copyCheck_fresh b w h.cell0 h.shape h.frozen0).mono ?_
  rintro e w' ⟨rfl,rfl⟩
  exact⟨rfl,h.used _,(Below.refl B w).setCell (p:=⟨b,0,none⟩) h.1 _⟩
 ·refine(copyCheck_used b w h.cell0).mono ?_
  rintro e w' ⟨rfl,rfl⟩
  exact⟨rfl,h,Below.refl B _⟩
theorem strCells_eq (s:ByteArray):Lib.strCells s=bv s.data.toList:=rfl
set_option maxHeartbeats 3200000 in
set_option maxRecDepth 100000 in
theorem write_any (B b:Nat) (l:List UInt8) (s:ByteArray) (w:World) (h:Bb w B b l) (hl:l.length+s.size<=1099511627776) (hBw:B<=w.heap.size) :
  Calls Tryz.prog 71 #[.pointer (some ⟨b,0,none⟩),.string s] w fun e w'=>e=.returned (.tuple #[.int .i64 s.size,.nilIface])/\Bb w' B b (l++s.data.toList)/\Below B w w':=by
 obtain⟨i0,hi,hz0,hz1,hz2⟩:=info_parts byte_info
 have hbl:(bv l).length=l.length:=bv_length l
 have HC:=Lib.hid (copyCheck_any B b l w h)
 clear h
 go_enter Tryz.func71, Tryz.ntmps71
 go_wp2_with fail
 refine HC.out.mono ?_
 rintro e w1 ⟨rfl,h1,hb1⟩
 obtain⟨hB,v,hbk,hown,hne⟩:=h1
 have c0:w1.cell? ⟨b,0,none⟩=some (.pointer (some ⟨b,0,none⟩)):=by rw[Lib.cell_of_heap hbk];rfl
 have c1:w1.cell? ⟨b,1,none⟩=some v:=by rw[Lib.cell_of_heap hbk];rfl
 clear HC
 go_wp2_with (at_builtin;refine Lib.wpList_append_own_string _ rfl _ _ 96 9 rfl B 5 i0 (by kernel_rfl) (by kernel_rfl) hi hz0 hz1 hz2 _ _ _ rfl hown s rfl ?c3 ?c4 ?c5 ?_)
 case c3=>unfold maxLen;omega
 case c4=>omega
 case c5=>have:=hb1.size;omega
 intro v' w2 hown' hgrow _
 have hlt:b<w1.heap.size:=by
  rcases Nat.lt_or_ge b w1.heap.size with h'|h'
  ·exact h'
  ·simp[Array.getElem?_eq_none h'] at hbk
 have hb2:w2.heap[b]? =some (.cells #[.pointer (some ⟨b,0,none⟩),v] 120 (0,0)):=by
  rw[hgrow.block b hlt (fun e=>hne e.symm)]
  exact hbk
 have d0:w2.cell? ⟨b,0,none⟩=some (.pointer (some ⟨b,0,none⟩)):=by rw[Lib.cell_of_heap hb2];rfl
 have d1:w2.cell? ⟨b,1,none⟩=some v:=by rw[Lib.cell_of_heap hb2];rfl
 have f1:w2.frozen? ⟨b,1,none⟩=false:=Lib.frozen_of_heap hb2 1
 obtain⟨ao,n',cap,rfl⟩:∃ao n' cap,v'=.slice ao n' cap:=by
  rcases hown'.2 with ⟨hv,_⟩|⟨g,cap,cur,hv,_⟩
  ·exact⟨_,_,_,hv⟩
  ·exact⟨_,_,_,hv⟩
 have HX:=Lib.hid (show Bb (w2.setCell ⟨b,1,none⟩ (.slice ao n' cap)) B b (l++s.data.toList)/\Below B w (w2.setCell ⟨b,1,none⟩ (.slice ao n' cap)) from by
  refine⟨.inr ?_,((hb1.grown hgrow (by have:=hb1.size;omega) (fun k hk=>(hown.lt k hk).1)).setCell (p:=⟨b,1,none⟩) hB _)⟩
  refine Lib.BuilderAt.put (T:=120) (e:=5) hB hb2 (bs':=bv (l++s.data.toList)) ?_ bb_ne
  rw[bv_append,List.length_append,hbl,<-strCells_eq]
  simpa[Lib.strCells_length] using hown')
 clear hown hown' hgrow hb1 hbk hb2 hne hlt
 go_wp2_with fail
 go_ret2
 exact⟨rfl,HX.out⟩
theorem len_any (B b:Nat) (l:List UInt8) (w:World) (h:Bb w B b l) :
  Calls Tryz.prog 70 #[.pointer (some ⟨b,0,none⟩)] w fun e w'=>e=.returned (.int .i64 (l.length:Int))/\w=w':=by
 refine(Tryz.Builder_Len B b (bv l) w h).mono ?_
 rintro e w' ⟨rfl,rfl⟩
 exact⟨by rw[bv_length],rfl⟩
theorem string_any (B b:Nat) (l:List UInt8) (w:World) (h:Bb w B b l) (hB:B<=w.heap.size) :
  Calls Tryz.prog 72 #[.pointer (some ⟨b,0,none⟩)] w fun e w'=>e=.returned (.string ⟨l.toArray⟩)/\Below B w w' :=
 Tryz.Builder_String_any B b l w h hB
theorem bb_new (w:World):Bb (w.alloc (.cells #[.pointer none,.slice none 0 0] 120)) w.heap.size w.heap.size []:=Lib.fresh_isBuilder _ _ w
theorem Bb.lt {w:World} {B b:Nat} {l:List UInt8} (h:Bb w B b l):b<w.heap.size:=by
 rcases h with h|h
 ·exact h.lt
 ·exact h.lt
theorem Bb.keep {w w':World} {B b:Nat} {l:List UInt8} (h:Bb w B b l) (_hs:w.heap.size<=w'.heap.size) (hb:∀k,B<=k->k<w.heap.size->w'.heap[k]? =w.heap[k]?):Bb w' B b l:=by
 have key:∀p,Lib.BuilderAt 120 5 B b p (bv l) w->Lib.BuilderAt 120 5 B b p (bv l) w':=by
  intro p hp
  have hlt:=hp.lt
  obtain⟨hB,v,hbk,hown,hne⟩:=hp
  refine⟨hB,v,(hb b hB hlt).trans hbk,?_,hne⟩
  rcases hown with ⟨h1,h2⟩
  refine⟨h1,?_⟩
  rcases h2 with h2|⟨g,cap,cur,hv,hg,hc,hr⟩
  ·exact .inl h2
  ·exact .inr ⟨g,cap,cur,hv,hg,(hb g hg (Array.getElem?_eq_some_iff.1 hc).1).trans hc,hr⟩
 rcases h with h|h
 ·exact .inl (key _ h)
 ·exact .inr (key _ h)
end Bd
end Go.Proofs.YtlnbjikooadmoaaGreat
namespace Go.Proofs.YtlnbjikooadmoaaGreat
namespace Rd
open Vi Sq
def ok1 (r:Int×Int×ByteArray):Bool:=decide (1<=r.1/\r.1<=1000000000/\0<=r.2.1/\r.2.1<=1000000000/\r.2.2.size<=2000)
theorem ok1_iff (r:Int×Int×ByteArray):ok1 r=true↔1<=r.1/\r.1<=1000000000/\0<=r.2.1/\r.2.1<=1000000000/\r.2.2.size<=2000:=by simp[ok1]
def off:Option (Int×Int×ByteArray)->Int×Int×ByteArray->Bool
 |none,_=>false
 |some p,r=>decide (r.1≠p.1+1∨r.2.1<p.2.1)
def rowE:Option (Int×Int×ByteArray)->List (Int×Int×ByteArray)->Int
 |_,[]=>0
 |p,r::l=>if ok1 r=false then 150 else if off p r=true then 151 else rowE (some r) l
def recB (r:Int×Int×ByteArray):List UInt8:=putV r.1.toNat++(putV r.2.1.toNat++(putV r.2.2.size++r.2.2.data.toList))
def joinB (l:List (Int×Int×ByteArray)):List UInt8:=l.flatMap recB
def jE (l:List (Int×Int×ByteArray)):Int:=if rowE none l≠0 then rowE none l else if 20000<(joinB l).length then 3 else 0
def fin:Nat->List Nat->List UInt8->Int×List Nat×List UInt8
 |0,acc,b=>(0,acc,b)
 |k+1,acc,b=>if(gv 0 0 b).2.2≠0 then((gv 0 0 b).2.2,acc,[]) else fin k (acc++[(gv 0 0 b).1]) (b.drop (gv 0 0 b).2.1)
def rec1 (b:List UInt8):Option ((Int×Int×ByteArray)×List UInt8):=match fin 3 [] b with
 |(0,[q,t,n],r)=>if q<1∨1000000000<q∨1000000000<t∨2000<n then none else if r.length<n then none else some (((q:Int),(t:Int),⟨(r.take n).toArray⟩),r.drop n)
 |_=>none
def spl:Nat->List UInt8->Option (List (Int×Int×ByteArray))
 |0,b=>if b=[] then some [] else none
 |n+1,b=>if b=[] then some [] else match rec1 b with
  |none=>none
  |some x=>(spl n x.2).map (x.1:: ·)
def split (b:List UInt8):Option (List (Int×Int×ByteArray)):=if 20000<b.length then none else match spl b.length b with
 |none=>none
 |some l=>if rowE none l≠0 then none else some l
theorem fin_put (n:Nat) (hn:n<9223372036854775808) (k:Nat) (acc:List Nat) (r:List UInt8):fin (k+1) acc (putV n++r)=fin k (acc++[n]) r:=by
 rw[fin,gv_put n hn,if_neg (by simp)]
 simp
theorem recB_length (r:Int×Int×ByteArray):3<=(recB r).length:=by
 have:=length_putV_pos r.1.toNat
 have:=length_putV_pos r.2.1.toNat
 have:=length_putV_pos r.2.2.size
 unfold recB;simp only[List.length_append];omega
theorem rec1_put (r:Int×Int×ByteArray) (h:ok1 r=true) (b:List UInt8):rec1 (recB r++b)=some (r,b):=by
 obtain⟨q,t,d⟩:=r
 rw[ok1_iff] at h
 simp only at h
 obtain⟨q,rfl⟩:=Int.eq_ofNat_of_zero_le (show 0<=q by omega)
 obtain⟨t,rfl⟩:=Int.eq_ofNat_of_zero_le (show 0<=t by omega)
 have hd:d.data.toList.length=d.size:=rfl
 unfold rec1 recB
 simp only[List.append_assoc,Int.toNat_natCast]
 rw[fin_put q (by omega),fin_put t (by omega),fin_put d.size (by omega)]
 simp only[fin,List.nil_append,List.cons_append]
 rw[if_neg (by omega),if_neg (by simp only[List.length_append];omega)]
 rw[List.take_left' hd,List.drop_left' hd]
theorem fin_some:∀(k:Nat) (acc:List Nat) (b:List UInt8) (ns:List Nat) (r:List UInt8),fin k acc b=(0,ns,r)-> ∃l:List Nat,l.length=k/\ns=acc++l/\b=l.flatMap putV++r/\ ∀n∈l,n<9223372036854775808
 |0,acc,b,ns,r,h=>by
  simp only[fin,Prod.mk.injEq,true_and] at h
  exact⟨[],rfl,by simp[h.1],by simp[h.2],by simp⟩
 |k+1,acc,b,ns,r,h=>by
  rw[fin] at h
  split at h
  ·rename_i hc
   simp only[Prod.mk.injEq] at h
   exact absurd h.1 hc
  rename_i hc
  obtain⟨l,hl,hns,hb,hlt⟩:=fin_some k _ _ _ _ h
  obtain⟨n,rest,hb1,hv,hu,hn,-⟩:=gv_some b 0 0 (gv 0 0 b).1 (gv 0 0 b).2.1 (by
   have:(gv 0 0 b).2.2=0:=by simpa using hc
   rw[<-this])
  simp only[Nat.pow_zero,Nat.mul_one,Nat.zero_add] at hv hu
  have hdr:b.drop (gv 0 0 b).2.1=rest:=by
   rw[hu]
   conv=>lhs;rw[hb1]
   simp
  rw[hdr] at hb
  rw[hv] at hns
  refine⟨n::l,by simp[hl],by simp[hns],?_,?_⟩
  ·rw[List.flatMap_cons,List.append_assoc,<-hb];exact hb1
  ·intro x hx
   rcases List.mem_cons.1 hx with rfl|hx
   ·simpa using hn
   ·exact hlt x hx
theorem rec1_some (b:List UInt8) (r:Int×Int×ByteArray) (b':List UInt8) (h:rec1 b=some (r,b')):ok1 r=true/\b=recB r++b':=by
 unfold rec1 at h
 split at h
 ·rename_i q t n rr he
  obtain⟨l,hl,hns,hb,-⟩:=fin_some 3 [] b _ _ he
  simp only[List.nil_append] at hns
  subst hns
  split at h
  ·simp at h
  split at h
  ·simp at h
  rename_i h1 h2
  simp only[Option.some.injEq,Prod.mk.injEq] at h
  obtain⟨rfl,rfl⟩:=h
  have e:(⟨(rr.take n).toArray⟩:ByteArray).size=n:=by
   have:(⟨(rr.take n).toArray⟩:ByteArray).size=(rr.take n).length:=by simp[ByteArray.size]
   rw[this,List.length_take];omega
  refine⟨?_,?_⟩
  ·rw[ok1_iff]
   simp only[e]
   omega
  ·rw[hb]
   unfold recB
   simp only[Int.toNat_natCast,e]
   simp[List.append_assoc]
 ·simp at h
theorem spl_join:∀(l:List (Int×Int×ByteArray)) (n:Nat),(∀r∈l,ok1 r=true)->(joinB l).length<=n->spl n (joinB l)=some l
 | [],n,_,_=>by cases n<;>simp[spl,joinB]
 |r::l,n,h,hn=>by
  have e:joinB (r::l)=recB r++joinB l:=List.flatMap_cons ..
  have h3:=recB_length r
  rw[e,List.length_append] at hn
  obtain⟨n,rfl⟩:∃m,n=m+1:=⟨n-1,by omega⟩
  rw[e,spl,if_neg (by intro e2;have:=congrArg List.length e2;simp at this;rw[this.1] at h3;simp at h3),rec1_put r (h r (List.mem_cons_self ..))]
  simp only
  rw[spl_join l n (fun x hx=>h x (List.mem_cons_of_mem _ hx)) (by omega)]
  rfl
theorem spl_some:∀(n:Nat) (b:List UInt8) (l:List (Int×Int×ByteArray)),spl n b=some l->b=joinB l/\ ∀r∈l,ok1 r=true
 |0,b,l,h=>by
  rw[spl] at h
  split at h
  ·simp only[Option.some.injEq] at h;subst h;rename_i hb;simp[hb,joinB]
  ·simp at h
 |n+1,b,l,h=>by
  rw[spl] at h
  split at h
  ·simp only[Option.some.injEq] at h;subst h;rename_i hb;simp[hb,joinB]
  split at h
  ·simp at h
  rename_i x hx
  obtain⟨l',hl',rfl⟩:=Option.map_eq_some_iff.1 h
  obtain⟨h1,h2⟩:=spl_some n x.2 l' hl'
  obtain⟨h3,h4⟩:=rec1_some b x.1 x.2 hx
  refine⟨?_,?_⟩
  ·rw[h4,h1];exact(List.flatMap_cons ..).symm
  ·intro r hr
   rcases List.mem_cons.1 hr with rfl|hr
   ·exact h3
   ·exact h2 r hr
theorem rowE_ok:∀(l:List (Int×Int×ByteArray)) (p:Option (Int×Int×ByteArray)),rowE p l=0-> ∀r∈l,ok1 r=true
 | [],_,_=>by simp
 |r::l,p,h=>by
  rw[rowE] at h
  split at h;·simp at h
  split at h;·simp at h
  rename_i h1 _
  intro x hx
  rcases List.mem_cons.1 hx with rfl|hx
  ·simpa using h1
  ·exact rowE_ok l _ h x hx
theorem split_join (l:List (Int×Int×ByteArray)) (h:jE l=0):split (joinB l)=some l:=by
 unfold jE at h
 split at h
 ·rename_i h1;exact absurd h h1
 split at h;·simp at h
 rename_i h1 h2
 have h1:rowE none l=0:=by simpa using h1
 unfold split
 rw[if_neg h2,spl_join l _ (rowE_ok l _ h1) (Nat.le_refl _)]
 simp[h1]
theorem split_some (b:List UInt8) (l:List (Int×Int×ByteArray)) (h:split b=some l):b=joinB l/\jE l=0:=by
 unfold split at h
 split at h;·simp at h
 split at h;·simp at h
 rename_i h2 _ l' hl'
 split at h;·simp at h
 rename_i h3
 simp only[Option.some.injEq] at h
 subst h
 obtain⟨h4,-⟩:=spl_some _ _ _ hl'
 refine⟨h4,?_⟩
 unfold jE
 rw[if_neg h3,if_neg (by rw[<-h4];exact h2)]
end Rd
end Go.Proofs.YtlnbjikooadmoaaGreat
