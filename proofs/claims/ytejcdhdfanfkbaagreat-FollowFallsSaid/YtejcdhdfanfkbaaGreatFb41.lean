/- open.found of an empty disk; seg.Trim of a header alone. -/
import Derived.Test.YtejcdhdfanfkbaaGreatFb40
import Derived.Test.YtejcdhdfanfkbaaGreatFb39
import Derived.Test.YtejcdhdfanfkbaaGreatFb07
namespace Go.Proofs.YtejcdhdfanfkbaaGreat
namespace Dk
open Go.RowKit Hd Rd Fm Sn Nf
open Go.Proofs.YtejcdhdfanfkbaaGreat.Op
section
variable {w w':World} {S:Nat->Prop} {bd gN gS:Nat} {v:Value} {D:DS}
theorem DiskAt.farRow {g:Nat} (h:DiskAt w S bd D) (hn: ¬ S g) (z:Array Value):DiskAt (w.setRow g z) S bd D:=by
 obtain⟨gN,gS,u,h⟩:=h;exact⟨gN,gS,u,h.kept (by rw[size_setRow];exact Nat.le_refl _) fun j hj=>setRow_other w g j z (by rintro rfl;exact hn hj)⟩
theorem _root_.Go.Proofs.YtejcdhdfanfkbaaGreat.Gr.farRow {S':Nat->Prop} {g:Nat} (h:Gr S w S' w') (hg:w.heap.size<=g) (z:Array Value):Gr S w S' (w'.setRow g z) :=
 ⟨h.os,h.tape,h.output,by rw[size_setRow];exact h.size,fun i hi hn=>(setRow_other w' g i z (by omega)).trans (h.block i hi hn),h.sub⟩
set_option maxHeartbeats 6400000 in
set_option maxRecDepth 100000 in
theorem found_go (h:DiskAt w S bd D) (hc:Calm D) (hn:D.now=[]) (hcap:100<=D.cap) (hch:D.chg.length<=1000) :
  Calls Tryz.prog 73 #[.pointer (some ⟨bd,0,none⟩)] w fun e w'=>∃(G b bm:Nat) (S':Nat->Prop),e=.returned (.tuple #[.agg #[.int .i64 1,.int .i64 2,.int .i64 0,.int .i64 1,.slice (some ⟨G,0,none⟩) 1 1],.int .i64 0])/\w.heap.size<=G/\ ¬ S' G/\Blk w' G (Sh.cl e1).toArray 217/\D.fl b=none/\(d3 (segN 1 1) (hdrB 1 1 1) b D).fl bm=none/\DiskAt w' S' bd (freshD b bm D)/\Gr S w S' w':=by
 have HNS:=Lib.hid (show ∀k,w.heap.size<=k-> ¬ S k from fun k hk=>by
  obtain⟨gN,gS,v,h⟩:=h;exact h.gt hk)
 have HLD:=Lib.hid (fun(wx:World) (hx:Below w.heap.size w wx)=>load_none (h.ext hx) hc.off (by rw[hn];rfl));have HFR:=Lib.hid (fun(wx:World) (hx:Below w.heap.size w wx)=>fresh_go (h.ext hx) hc hn hcap hch);clear h hc hn hcap hch;have HN:=Lib.hid (Blk.new w #[.int .i64 0,.int .i64 0,.int .i64 0,.int .i64 0,.slice none 0 0] 70);have HB:=Lib.hid (ext_alloc w (.cells #[.int .i64 0,.int .i64 0,.int .i64 0,.int .i64 0,.slice none 0 0] 70))
 go_enter Tryz.func73, Tryz.ntmps73
 go_wp2_with (first
  |(go_at_call 119;refine(HLD.out _ HB.out).mono ?_;rintro e1 w1 ⟨rfl,hb1⟩;have HB1:=Lib.hid ((HB.out.trans (hb1.mono HB.out.size)).trans ((ext_alloc w1 (.cells #[.int .i64 0,.int .i64 0,.int .i64 0,.int .i64 0,.slice none 0 0] 70)).mono (HB.out.trans (hb1.mono HB.out.size)).size));have HN1:=Lib.hid ((HN.out.ext hb1).alloc (.cells #[.int .i64 0,.int .i64 0,.int .i64 0,.int .i64 0,.slice none 0 0] 70));clear hb1)
  |(go_at_call 120;refine(HFR.out _ HB1.out).mono ?_;rintro e2 w2 ⟨G,b,bm,S2,rfl,hlG,hnG,hG,hbn,hbm,hD,hg⟩;have HG:=Lib.hid (And.intro (Nat.le_trans HB1.out.size hlG) (And.intro hnG (And.intro hG (And.intro hbn (And.intro hbm hD)))));have HGR:=Lib.hid ((Gr.of_below HB1.out).trans hg);have HN2:=Lib.hid (hg.blk HN1.out (HNS.out _ (Nat.le_refl _)));have HNN:=Lib.hid (hg.out HN1.out.lt (HNS.out _ (Nat.le_refl _)));have HGN:=Lib.hid (show G≠w.heap.size from fun e=>by have:=HN1.out.lt;omega);clear hlG hnG hG hbn hbm hD hg)
  |(refine wpList_store_row rfl 70 (.tmp 2) (.tmp 15) rfl w.heap.size #[.int .i64 1,.int .i64 2,.int .i64 0,.int .i64 1,.slice (some ⟨G,0,none⟩) 1 1] #[.int .i64 0,.int .i64 0,.int .i64 0,.int .i64 0,.slice none 0 0] (by simp[go_sem,Act.eval]) (by simp[go_sem,Act.eval]) HN2.out mf_info rfl (by simp[Value.oneCell']) ?_))
 refine bodyPost_ret (v:=.tuple #[.agg #[.int .i64 1,.int .i64 2,.int .i64 0,.int .i64 1,.slice (some ⟨G,0,none⟩) 1 1],.int .i64 0]) (by exact results_cell2 rfl rfl rfl (HN2.out.set #[.int .i64 1,.int .i64 2,.int .i64 0,.int .i64 1,.slice (some ⟨G,0,none⟩) 1 1]) Tryz.underlying70 rfl mf_info) (by exact rfl) ?_;exact⟨G,b,bm,S2,rfl,HG.out.1,HG.out.2.1,HG.out.2.2.1.setOther HGN.out _,HG.out.2.2.2.1,HG.out.2.2.2.2.1,HG.out.2.2.2.2.2.farRow HNN.out _,HGR.out.farRow (Nat.le_refl _) _⟩
set_option maxHeartbeats 6400000 in
set_option maxRecDepth 100000 in
theorem Trim_head (h:DiskAt w S bd D) (ho:D.off=false) {i g f b:Nat} {q:ByteArray} (hh:1<=i/\i<=999999/\1<=g/\g<=999999/\1<=f/\f<=1000000000) (hl:lk (segN i g) D.now=some b) (hp:D.fl b=some (q,hdrB i g f)) :
  Calls Tryz.prog 75 #[.pointer (some ⟨bd,0,none⟩),.agg #[.int .i64 (i:Int),.int .i64 (g:Int),.int .i64 (f:Int)]] w fun e w'=>e=.returned (.tuple #[.slice none 0 0,.int .i64 ((hdrB i g f).size:Int),.int .i64 0])/\Below w.heap.size w w':=by
 have mixed:Tryz.prog.follows .mixedOrders=true:=by kernel_rfl
 have HO:=Lib.hid (fun w=>of_ok (bd:=bd) (i:Int) (g:Int) (f:Int) w (by simp only[okH,decide_eq_true_eq];omega));have hrp:readP D (segN i g)=(hdrB i g f,0):=by
  unfold readP;rw[ho,hl];simp[hp]
 have HRD:=Lib.hid (fun(wx:World) (hx:Below w.heap.size w wx)=>read_any (h.ext hx) (segN i g));rw[hrp] at HRD;have HTL:=Lib.hid (fun wx=>tail_head i g f wx hh);clear h ho hh hl hp hrp;unfold sgc at *
 generalize segN i g=s at *
 generalize hdrB i g f=T at *
 have B2:=ext_alloc w (.cells #[.int .i64 (i:Int),.int .i64 (g:Int),.int .i64 (f:Int)] 148);have B0:=Blk.new w #[.int .i64 (i:Int),.int .i64 (g:Int),.int .i64 (f:Int)] 148
 go_enter Tryz.func75, Tryz.ntmps75
 go_upto_region 10 with (first
  |(go_at_call 123;refine(HO.out _).mono ?_;rintro e1 w1 ⟨rfl,hb1⟩;have HW1:=Lib.hid (B2.trans (hb1.mono B2.size));have HB1:=Lib.hid ((B0.ext hb1).alloc (.cells #[.pointer (some ⟨bd,0,none⟩),.int .i64 (i:Int),.int .i64 (g:Int),.int .i64 (f:Int),.string s] 219));clear hb1 B2 B0;have HW2:=Lib.hid (HW1.out.trans ((ext_alloc w1 (.cells #[.pointer (some ⟨bd,0,none⟩),.int .i64 (i:Int),.int .i64 (g:Int),.int .i64 (f:Int),.string s] 219)).mono HW1.out.size)))
  |(go_at_call 70;refine(HRD.out _ HW2.out).mono ?_;rintro e2 w2 ⟨rfl,rfl⟩;have k0:=HB1.out.cell 0 (v:=.int .i64 (i:Int)) rfl;have k1:=HB1.out.cell 1 (v:=.int .i64 (g:Int)) rfl;have k2:=HB1.out.cell 2 (v:=.int .i64 (f:Int)) rfl)
  |(go_at_call 124;refine(HTL.out _).mono ?_;rintro e3 w3 ⟨rfl,hb3⟩;have HW3:=Lib.hid ((HW2.out.trans (hb3.mono HW2.out.size)).trans ((ext_alloc w3 (.cells #[.int .i64 (T.size:Int)] 3)).mono (HW2.out.trans (hb3.mono HW2.out.size)).size));have HE3:=Lib.hid (Blk.new w3 #[.int .i64 (T.size:Int)] 3);clear hb3 k0 k1 k2))
 have z0:=HE3.out.cell 0 (v:=.int .i64 (T.size:Int)) rfl;have z1: ¬ ((T.size:Int)<(T.size:Int)):=by omega
 generalize w3.alloc (.cells #[.int .i64 (T.size:Int)] 3)=w4 at *
 generalize w3.heap.size=be at *
 go_wp2_with fail
 go_quiet (fail)
 go_wp2_with fail
 go_ret3
 exact⟨rfl,below_drewN HW3.out _⟩
end
end Dk
end Go.Proofs.YtejcdhdfanfkbaaGreat
