/- turn.Load and turn.Clean of an empty disk; open.fresh, open.found of it. open.found of an empty disk; seg.Trim of a header alone. -/
import Derived.Test.YtphfmgapiimliaaGreatSc38
import Derived.Test.YtphfmgapiimliaaGreatSc19
import Derived.Test.YtphfmgapiimliaaGreatSc31
import Derived.Test.YtphfmgapiimliaaGreatSc06
namespace Go.Proofs.YtphfmgapiimliaaGreat
namespace Dk
open Go.RowKit Hd Rd Fm Sn Nf
open Go.Proofs.YtphfmgapiimliaaGreat.Op
section
variable {w w':World} {S:Nat->Prop} {bd gN gS:Nat} {v:Value} {D:DS}
theorem DiskAt.far {g:Nat} (h:DiskAt w S bd D) (hn: ¬ S g) (k:Nat) (v:Value):DiskAt (w.setCell ⟨g,k,none⟩ v) S bd D:=by
 obtain⟨gN,gS,u,h⟩:=h;exact⟨gN,gS,u,h.kept (by simp) fun j hj=>Below.heap_setCell _ ⟨g,k,none⟩ _ j (by rintro rfl;exact hn hj)⟩
theorem _root_.Go.Proofs.YtphfmgapiimliaaGreat.Gr.far {S':Nat->Prop} {g:Nat} (h:Gr S w S' w') (hg:w.heap.size<=g) (k:Nat) (v:Value):Gr S w S' (w'.setCell ⟨g,k,none⟩ v) :=
 ⟨h.os,h.tape,h.output,by simp;exact h.size,fun i hi hn=>(Below.heap_setCell w' ⟨g,k,none⟩ v i (by dsimp only;omega)).trans (h.block i hi hn),h.sub⟩
set_option maxHeartbeats 3200000 in
set_option maxRecDepth 100000 in
theorem load_none (h:DiskAt w S bd D) (ho:D.off=false) (hl:lk maniN D.now=none) :
  Calls Tryz.prog 82 #[.pointer (some ⟨bd,0,none⟩)] w fun e w'=>e=.returned (.tuple #[.agg #[.int .i64 0,.int .i64 0,.int .i64 0,.int .i64 0,.slice none 0 0],.int .i64 201])/\Below w.heap.size w w':=by
 have hrp:readP D maniN=(⟨#[]⟩,201):=by
  unfold readP;rw[ho,hl];rfl
 have HRD:=Lib.hid (fun(wx:World) (hx:Below w.heap.size w wx)=>read_any (h.ext hx) maniN);rw[hrp] at HRD;have HM:=Lib.hid (fun w=>manifest_any (w:=w));clear h ho hl hrp;have HN:=Lib.hid (Blk.new w #[.int .i64 0,.int .i64 0,.int .i64 0,.int .i64 0,.slice none 0 0] 26);have HB:=Lib.hid (ext_alloc w (.cells #[.int .i64 0,.int .i64 0,.int .i64 0,.int .i64 0,.slice none 0 0] 26))
 go_enter Tryz.func82, Tryz.ntmps82
 go_wp2_with (first
  |(go_at_call 114;refine(HM.out _).mono ?_;rintro e1 w1 ⟨rfl,rfl⟩)
  |(go_at_call 87;refine(HRD.out _ HB.out).mono ?_;rintro e2 w2 ⟨rfl,rfl⟩)
  |(refine wpList_store_row rfl 26 (.tmp 2) (.tmp 15) rfl w.heap.size #[.int .i64 0,.int .i64 0,.int .i64 0,.int .i64 0,.slice none 0 0] #[.int .i64 0,.int .i64 0,.int .i64 0,.int .i64 0,.slice none 0 0] (by simp[go_sem,Act.eval]) (by simp[go_sem,Act.eval]) HN.out mf_info rfl (by simp[Value.oneCell']) ?_))
 refine bodyPost_ret (v:=.tuple #[.agg #[.int .i64 0,.int .i64 0,.int .i64 0,.int .i64 0,.slice none 0 0],.int .i64 201]) (by exact results_cell2 rfl rfl rfl (HN.out.set #[.int .i64 0,.int .i64 0,.int .i64 0,.int .i64 0,.slice none 0 0]) Tryz.underlying26 rfl mf_info) (by exact rfl) ?_;exact⟨rfl,ext_setRow HB.out (Nat.le_refl _) _⟩
set_option maxHeartbeats 1600000 in
theorem clean_none (h:DiskAt w S bd D) (ho:D.off=false) (hn:D.now=[]) (A:Option Addr) (n c:Nat) :
  Calls Tryz.prog 84 #[.pointer (some ⟨bd,0,none⟩),.slice A n c] w fun e w'=>e=.returned (.tuple #[.int .i64 0,.int .i64 0])/\Below w.heap.size w w':=by
 have hL:=list_any h ho (by rw[hn];intro x hx;cases hx);rw[hn,show(srt []).length=0 from srt_len []] at hL;have HL:=Lib.hid hL;clear h ho hn hL
 go_enter Tryz.func84, Tryz.ntmps84
 go_wp2_with (go_at_call 22;refine HL.out.mono ?_;rintro e1 w1 ⟨v1,rfl,hown,hb1⟩;obtain⟨A1,c1,rfl,-,-⟩:=own_slice hown;have HB1:=Lib.hid hb1;clear hown hb1)
 go_loopw [6,13] (fun s6 s13 wr=>s6=.int .i64 0/\s13=.int .i64 0/\wr=w1) (fun _ _ _=>0)
 case atStart=>exact⟨rfl,by go_num,rfl⟩
 case round =>
  obtain⟨rfl,rfl,rfl⟩:=hrel;go_wp2_with fail
  go_ret2
  exact⟨rfl,HB1.out⟩
def freshD (b bm:Nat) (D:DS):DS:=saveD (frB 4 (mfB m1)) bm (d3 (segN 1 1) (hdrB 1 1 1) b D)
theorem d3_now {s T:ByteArray} {b:Nat} {D:DS} (hl:lk s D.now=none):(d3 s T b D).now=D.now++[(s,b)]:=d1_now hl
theorem calm_d3 (hc:Calm D) (s T:ByteArray) (b:Nat):Calm (d3 s T b D):=((((hc.setF b _).tick).chg _).tick.setF b _).tick.setF b _
theorem fresh_used (hf:Fit D) (hn:D.now=[]) {b:Nat}:usedD (d3 (segN 1 1) (hdrB 1 1 1) b D)=12:=by
 unfold usedD;rw[d3_now (by rw[hn];rfl),hn];show szs _ [(segN 1 1,b)]=12
 have e:(d3 (segN 1 1) (hdrB 1 1 1) b D).fl b=some (⟨#[]⟩++hdrB 1 1 1,⟨#[]⟩++hdrB 1 1 1):=by
  show(if b=b then _ else _)=_
  rw[if_pos rfl]
 unfold szs;rw[e];simp only[Option.map_some,Option.getD_some,ByteArray.size_append,hdr_size];rfl
set_option maxHeartbeats 6400000 in
set_option maxRecDepth 100000 in
theorem fresh_go (h:DiskAt w S bd D) (hc:Calm D) (hn:D.now=[]) (hcap:100<=D.cap) (hch:D.chg.length<=1000) :
  Calls Tryz.prog 83 #[.pointer (some ⟨bd,0,none⟩)] w fun e w'=>∃(G b bm:Nat) (S':Nat->Prop),e=.returned (.tuple #[.agg #[.int .i64 1,.int .i64 2,.int .i64 0,.int .i64 1,.slice (some ⟨G,0,none⟩) 1 1],.int .i64 0])/\w.heap.size<=G/\ ¬ S' G/\Blk w' G (Sh.cl e1).toArray 48/\D.fl b=none/\(d3 (segN 1 1) (hdrB 1 1 1) b D).fl bm=none/\DiskAt w' S' bd (freshD b bm D)/\Gr S w S' w':=by
 have mixed:Tryz.prog.follows .mixedOrders=true:=by kernel_rfl
 have hfit:=h.fit;have hu0:usedD D=0:=by unfold usedD;rw[hn];rfl
 have HNS:=Lib.hid (show ∀k,w.heap.size<=k-> ¬ S k from fun k hk=>by
  obtain⟨gN,gS,v,h⟩:=h;exact h.gt hk)
 have HCL:=Lib.hid (fun(wx:World) (hx:Below w.heap.size w wx)=>clean_none (h.ext hx) hc.off hn none 0 0);have HMN:=Lib.hid (fun w=>mnew_go 1 1 1 w (by decide) (by decide));have HSC:=Lib.hid (fun(wx:World) (hx:Below w.heap.size w wx)=>(Create_go (h.ext hx) hc (i:=1) (g:=1) (f:=1) (by omega) (by rw[hn];rfl) (by rw[hn];simp) (by omega) (by rw[hu0];omega)).mono (R':=fun e w'=>e=.returned (.int .i64 0)/\ ∃b S',D.fl b=none/\DiskAt w' S' bd (d3 (segN 1 1) (hdrB 1 1 1) b D)/\Gr S wx S' w') fun e w' hq=>hq);have HSV:=Lib.hid (show ∀(wx:World) (S':Nat->Prop) (b:Nat) (G:Nat),DiskAt wx S' bd (d3 (segN 1 1) (hdrB 1 1 1) b D)->Blk wx G (Sh.cl e1).toArray 48->Calls Tryz.prog 69 #[.pointer (some ⟨bd,0,none⟩),.agg #[.int .i64 1,.int .i64 2,.int .i64 0,.int .i64 1,.slice (some ⟨G,0,none⟩) 1 1]] wx fun e w'=>e=.returned (.int .i64 0)/\ ∃bm S2,(d3 (segN 1 1) (hdrB 1 1 1) b D).fl bm=none/\DiskAt w' S2 bd (freshD b bm D)/\Gr S' wx S2 w' from fun wx S' b G hD hG=>by
  have e1:(d3 (segN 1 1) (hdrB 1 1 1) b D).now=[(segN 1 1,b)]:=by rw[d3_now (by rw[hn];rfl),hn];rfl
  have hr:Rd wx wx.heap.size 9 (some ⟨G,0,none⟩) 1 (flS [Op.e1]):=rdK_blk (n:=1) (K:=9) hG rfl;refine(Save_go hD (calm_d3 hc _ _ b) (m:=m1) (s:=⟨some ⟨G,0,none⟩,1,1⟩) hr (by show 1<=1000000;omega) m1_ok ?_ ?_ ?_ ?_ ?_ ?_).mono ?_
  ·rw[e1]
   intro x hx;obtain rfl:=List.mem_singleton.1 hx;show(segN 1 1).size<=_
   rw[segN_size];decide
  ·rw[e1,lk_cons,if_neg (seg_temp 1 1)];rfl
  ·rw[e1];simp
  ·show(D.chg++[_]).length<_
   rw[List.length_append];simp only[List.length_cons,List.length_nil];omega
  ·rw[fresh_used hfit hn,m1_size]
   show(14:Int)+9+12<=D.cap
   omega
  ·rw[m1_size];omega
  ·rintro e w' ⟨rfl,bm,S2,q1,q2,q3⟩
   exact⟨rfl,bm,S2,q1,q2,q3⟩)
 clear h hc hn hcap hch hfit hu0;have HN:=Lib.hid (Blk.new w #[.int .i64 0,.int .i64 0,.int .i64 0,.int .i64 0,.slice none 0 0] 26);have HB:=Lib.hid (ext_alloc w (.cells #[.int .i64 0,.int .i64 0,.int .i64 0,.int .i64 0,.slice none 0 0] 26))
 go_enter Tryz.func83, Tryz.ntmps83
 go_upto_region 11 with (first
  |(go_at_call 84;refine(HCL.out _ HB.out).mono ?_;rintro e1 w1 ⟨rfl,hb1⟩;have HB1:=Lib.hid ((HB.out.trans (hb1.mono HB.out.size)).trans ((ext_alloc w1 (.cells #[.int .i64 1,.int .i64 1,.int .i64 1] 35)).mono (HB.out.trans (hb1.mono HB.out.size)).size));have HN1:=Lib.hid ((HN.out.ext hb1).alloc (.cells #[.int .i64 1,.int .i64 1,.int .i64 1] 35));have HH1:=Lib.hid (Blk.new w1 #[.int .i64 1,.int .i64 1,.int .i64 1] 35);clear hb1)
  |(refine wpList_load_row rfl 35 (.tmp 6) rfl w1.heap.size #[.int .i64 1,.int .i64 1,.int .i64 1] _ (by simp[go_sem,Act.eval]) HH1.out Tryz.underlying35 rfl hd_info ?_)
  |(go_at_call 130;refine(HMN.out _).mono ?_;rintro e2 w2 ⟨G,rfl,hG,hlG,hb2⟩;have HG2:=Lib.hid (hG.alloc (.cells #[.int .i64 1,.int .i64 2,.int .i64 0,.int .i64 1,.slice (some ⟨G,0,none⟩) 1 1] 26));have HLG:=Lib.hid (Nat.le_trans HB1.out.size hlG);have HZ2:=Lib.hid (show w.heap.size<w2.heap.size from Nat.lt_of_lt_of_le HN1.out.lt hb2.size);have HGL:=Lib.hid (show G<w2.heap.size from hG.lt);have HB2:=Lib.hid ((HB1.out.trans (hb2.mono HB1.out.size)).trans ((ext_alloc w2 (.cells #[.int .i64 1,.int .i64 2,.int .i64 0,.int .i64 1,.slice (some ⟨G,0,none⟩) 1 1] 26)).mono (HB1.out.trans (hb2.mono HB1.out.size)).size));have HN2:=Lib.hid ((HN1.out.ext hb2).alloc (.cells #[.int .i64 1,.int .i64 2,.int .i64 0,.int .i64 1,.slice (some ⟨G,0,none⟩) 1 1] 26));have HH1:=Lib.hid ((HH1.out.ext hb2).alloc (.cells #[.int .i64 1,.int .i64 2,.int .i64 0,.int .i64 1,.slice (some ⟨G,0,none⟩) 1 1] 26));have HM2:=Lib.hid (Blk.new w2 #[.int .i64 1,.int .i64 2,.int .i64 0,.int .i64 1,.slice (some ⟨G,0,none⟩) 1 1] 26);clear hb2 hG hlG)
  |(go_at_call 68;refine(HSC.out _ HB2.out).mono ?_;rintro e3 w3 ⟨rfl,b,S3,hbn,hD3,hg3⟩;have HD3:=Lib.hid hD3;have HG3:=Lib.hid hg3;have HBN:=Lib.hid hbn;clear hD3 hg3 hbn))
 have HGR3:=Lib.hid ((Gr.of_below HB2.out).trans HG3.out);have nN:=HG3.out.out HN2.out.lt (HNS.out _ (Nat.le_refl _));have nM:=HG3.out.out HM2.out.lt (HNS.out _ (Nat.le_of_lt HZ2.out));have nG:=HG3.out.out HG2.out.lt (HNS.out _ HLG.out);have hN3:=HG3.out.blk HN2.out (HNS.out _ (Nat.le_refl _));have hM3:=HG3.out.blk HM2.out (HNS.out _ (Nat.le_of_lt HZ2.out));have hG3:=HG3.out.blk HG2.out (HNS.out _ HLG.out);have hmn:w2.heap.size≠w.heap.size:=Nat.ne_of_gt HZ2.out;have hgn:G≠w.heap.size:=by
  intro e;have:=hG3;rw[e] at this;have h2:=hN3;unfold Blk at this h2;rw[h2] at this;simp at this
 have hdw:Below w3.heap.size w3 w3.drew:=⟨rfl,rfl,rfl,Nat.le_refl _,fun _ _=>rfl⟩
 have HD:=Lib.hid (show DiskAt w3.drew S3 bd (d3 (segN 1 1) (hdrB 1 1 1) b D)/\Blk w3.drew G (Sh.cl e1).toArray 48 from⟨HD3.out.ext hdw,hG3⟩);have HMD:=Lib.hid (show Blk w3.drew w2.heap.size #[.int .i64 1,.int .i64 2,.int .i64 0,.int .i64 1,.slice (some ⟨G,0,none⟩) 1 1] 26 from hM3);have HND:=Lib.hid (show Blk w3.drew w.heap.size #[.int .i64 0,.int .i64 0,.int .i64 0,.int .i64 0,.slice none 0 0] 26 from hN3);have HRD:=Lib.hid (show Gr S w S3 w3.drew from HGR3.out.drewN 1);have HNN:=Lib.hid (And.intro nN (And.intro nM nG));have HLG2:=HLG;have HGN:=Lib.hid hgn;clear HGR3 nN nM nG hN3 hM3 hG3 hmn hgn hdw HG3 HD3 HB HB1 HB2 HN HN1 HN2 HH1 HM2 HG2 HZ2 HGL HLG HSC HMN HCL;generalize w2.heap.size=bm2 at *
 have k0:=HMD.out.cell 0 (v:=.int .i64 1) rfl;have k1:=HMD.out.cell 1 (v:=.int .i64 2) rfl;have k2:=HMD.out.cell 2 (v:=.int .i64 0) rfl;have k3:=HMD.out.cell 3 (v:=.int .i64 1) rfl;have k4:=HMD.out.cell 4 (v:=.slice (some ⟨G,0,none⟩) 1 1) rfl;go_region_with (go_at_call 69;refine(HSV.out _ _ _ _ HD.out.1 HD.out.2).mono ?_;rintro e9 w9 ⟨rfl,bm,S9,hbm,hD9,hg9⟩;have HM9:=Lib.hid (hg9.blk HMD.out HNN.out.2.1);have HN9:=Lib.hid (hg9.blk HND.out HNN.out.1);have HD9:=Lib.hid (And.intro hbm (And.intro hD9 (And.intro (HRD.out.trans hg9) (And.intro (hg9.out HMD.out.lt HNN.out.2.1) (And.intro (hg9.out HND.out.lt HNN.out.1) (And.intro (hg9.out HD.out.2.lt HNN.out.2.2) (hg9.blk HD.out.2 HNN.out.2.2)))))));clear hbm hD9 hg9;have l0:=HM9.out.cell 0 (v:=.int .i64 1) rfl;have l1:=HM9.out.cell 1 (v:=.int .i64 2) rfl;have l2:=HM9.out.cell 2 (v:=.int .i64 0) rfl;have l3:=HM9.out.cell 3 (v:=.int .i64 1) rfl;have l4:=HM9.out.cell 4 (v:=.slice (some ⟨G,0,none⟩) 1 1) rfl;have c0:=HN9.out.cell 0 (v:=.int .i64 0) rfl;have f0:=HN9.out.fz 0;have c1:=HN9.out.cell 1 (v:=.int .i64 0) rfl;have f1:=HN9.out.fz 1;have c2:=HN9.out.cell 2 (v:=.int .i64 0) rfl;have f2:=HN9.out.fz 2;have c3:=HN9.out.cell 3 (v:=.int .i64 0) rfl;have f3:=HN9.out.fz 3;have c4:=HN9.out.cell 4 (v:=.slice none 0 0) rfl;have f4:=HN9.out.fz 4)
 all_goals
  have HE:=Lib.hid (show Blk _ w.heap.size #[.int .i64 1,.int .i64 2,.int .i64 0,.int .i64 1,.slice (some ⟨G,0,none⟩) 1 1] 26 from(((((HN9.out.put 0 (.int .i64 1)).put 1 (.int .i64 2)).put 2 (.int .i64 0)).put 3 (.int .i64 1)).put 4 (.slice (some ⟨G,0,none⟩) 1 1)));have HF:=Lib.hid (And.intro (((((HD9.out.2.1.far HD9.out.2.2.2.2.1 0 (.int .i64 1)).far HD9.out.2.2.2.2.1 1 (.int .i64 2)).far HD9.out.2.2.2.2.1 2 (.int .i64 0)).far HD9.out.2.2.2.2.1 3 (.int .i64 1)).far HD9.out.2.2.2.2.1 4 (.slice (some ⟨G,0,none⟩) 1 1))
   (And.intro (((((HD9.out.2.2.1.far (Nat.le_refl _) 0 (.int .i64 1)).far (Nat.le_refl _) 1 (.int .i64 2)).far (Nat.le_refl _) 2 (.int .i64 0)).far (Nat.le_refl _) 3 (.int .i64 1)).far (Nat.le_refl _) 4 (.slice (some ⟨G,0,none⟩) 1 1))
   (((((HD9.out.2.2.2.2.2.2.setCell (j:=0) HGN.out (.int .i64 1)).setCell (j:=1) HGN.out (.int .i64 2)).setCell (j:=2) HGN.out (.int .i64 0)).setCell (j:=3) HGN.out (.int .i64 1)).setCell (j:=4) HGN.out (.slice (some ⟨G,0,none⟩) 1 1))))
  go_wp2_with fail
  refine bodyPost_ret (v:=.tuple #[.agg #[.int .i64 1,.int .i64 2,.int .i64 0,.int .i64 1,.slice (some ⟨G,0,none⟩) 1 1],.int .i64 0]) (by exact results_cell2 rfl rfl rfl HE.out Tryz.underlying26 rfl mf_info) (by exact rfl) ?_;exact⟨G,b,bm,S9,rfl,HLG2.out,HD9.out.2.2.2.2.2.1,HF.out.2.2,HBN.out,HD9.out.1,HF.out.1,HF.out.2.1⟩
end
end Dk
end Go.Proofs.YtphfmgapiimliaaGreat
namespace Go.Proofs.YtphfmgapiimliaaGreat
namespace Dk
open Go.RowKit Hd Rd Fm Sn Nf
open Go.Proofs.YtphfmgapiimliaaGreat.Op
section
variable {w w':World} {S:Nat->Prop} {bd gN gS:Nat} {v:Value} {D:DS}
theorem DiskAt.farRow {g:Nat} (h:DiskAt w S bd D) (hn: ¬ S g) (z:Array Value):DiskAt (w.setRow g z) S bd D:=by
 obtain⟨gN,gS,u,h⟩:=h;exact⟨gN,gS,u,h.kept (by rw[size_setRow];exact Nat.le_refl _) fun j hj=>setRow_other w g j z (by rintro rfl;exact hn hj)⟩
theorem _root_.Go.Proofs.YtphfmgapiimliaaGreat.Gr.farRow {S':Nat->Prop} {g:Nat} (h:Gr S w S' w') (hg:w.heap.size<=g) (z:Array Value):Gr S w S' (w'.setRow g z) :=
 ⟨h.os,h.tape,h.output,by rw[size_setRow];exact h.size,fun i hi hn=>(setRow_other w' g i z (by omega)).trans (h.block i hi hn),h.sub⟩
set_option maxHeartbeats 6400000 in
set_option maxRecDepth 100000 in
theorem found_go (h:DiskAt w S bd D) (hc:Calm D) (hn:D.now=[]) (hcap:100<=D.cap) (hch:D.chg.length<=1000) :
  Calls Tryz.prog 51 #[.pointer (some ⟨bd,0,none⟩)] w fun e w'=>∃(G b bm:Nat) (S':Nat->Prop),e=.returned (.tuple #[.agg #[.int .i64 1,.int .i64 2,.int .i64 0,.int .i64 1,.slice (some ⟨G,0,none⟩) 1 1],.int .i64 0])/\w.heap.size<=G/\ ¬ S' G/\Blk w' G (Sh.cl e1).toArray 48/\D.fl b=none/\(d3 (segN 1 1) (hdrB 1 1 1) b D).fl bm=none/\DiskAt w' S' bd (freshD b bm D)/\Gr S w S' w':=by
 have HNS:=Lib.hid (show ∀k,w.heap.size<=k-> ¬ S k from fun k hk=>by
  obtain⟨gN,gS,v,h⟩:=h;exact h.gt hk)
 have HLD:=Lib.hid (fun(wx:World) (hx:Below w.heap.size w wx)=>load_none (h.ext hx) hc.off (by rw[hn];rfl));have HFR:=Lib.hid (fun(wx:World) (hx:Below w.heap.size w wx)=>fresh_go (h.ext hx) hc hn hcap hch);clear h hc hn hcap hch;have HN:=Lib.hid (Blk.new w #[.int .i64 0,.int .i64 0,.int .i64 0,.int .i64 0,.slice none 0 0] 26);have HB:=Lib.hid (ext_alloc w (.cells #[.int .i64 0,.int .i64 0,.int .i64 0,.int .i64 0,.slice none 0 0] 26))
 go_enter Tryz.func51, Tryz.ntmps51
 go_wp2_with (first
  |(go_at_call 82;refine(HLD.out _ HB.out).mono ?_;rintro e1 w1 ⟨rfl,hb1⟩;have HB1:=Lib.hid ((HB.out.trans (hb1.mono HB.out.size)).trans ((ext_alloc w1 (.cells #[.int .i64 0,.int .i64 0,.int .i64 0,.int .i64 0,.slice none 0 0] 26)).mono (HB.out.trans (hb1.mono HB.out.size)).size));have HN1:=Lib.hid ((HN.out.ext hb1).alloc (.cells #[.int .i64 0,.int .i64 0,.int .i64 0,.int .i64 0,.slice none 0 0] 26));clear hb1)
  |(go_at_call 83;refine(HFR.out _ HB1.out).mono ?_;rintro e2 w2 ⟨G,b,bm,S2,rfl,hlG,hnG,hG,hbn,hbm,hD,hg⟩;have HG:=Lib.hid (And.intro (Nat.le_trans HB1.out.size hlG) (And.intro hnG (And.intro hG (And.intro hbn (And.intro hbm hD)))));have HGR:=Lib.hid ((Gr.of_below HB1.out).trans hg);have HN2:=Lib.hid (hg.blk HN1.out (HNS.out _ (Nat.le_refl _)));have HNN:=Lib.hid (hg.out HN1.out.lt (HNS.out _ (Nat.le_refl _)));have HGN:=Lib.hid (show G≠w.heap.size from fun e=>by have:=HN1.out.lt;omega);clear hlG hnG hG hbn hbm hD hg)
  |(refine wpList_store_row rfl 26 (.tmp 2) (.tmp 15) rfl w.heap.size #[.int .i64 1,.int .i64 2,.int .i64 0,.int .i64 1,.slice (some ⟨G,0,none⟩) 1 1] #[.int .i64 0,.int .i64 0,.int .i64 0,.int .i64 0,.slice none 0 0] (by simp[go_sem,Act.eval]) (by simp[go_sem,Act.eval]) HN2.out mf_info rfl (by simp[Value.oneCell']) ?_))
 refine bodyPost_ret (v:=.tuple #[.agg #[.int .i64 1,.int .i64 2,.int .i64 0,.int .i64 1,.slice (some ⟨G,0,none⟩) 1 1],.int .i64 0]) (by exact results_cell2 rfl rfl rfl (HN2.out.set #[.int .i64 1,.int .i64 2,.int .i64 0,.int .i64 1,.slice (some ⟨G,0,none⟩) 1 1]) Tryz.underlying26 rfl mf_info) (by exact rfl) ?_;exact⟨G,b,bm,S2,rfl,HG.out.1,HG.out.2.1,HG.out.2.2.1.setOther HGN.out _,HG.out.2.2.2.1,HG.out.2.2.2.2.1,HG.out.2.2.2.2.2.farRow HNN.out _,HGR.out.farRow (Nat.le_refl _) _⟩
set_option maxHeartbeats 6400000 in
set_option maxRecDepth 100000 in
theorem Trim_head (h:DiskAt w S bd D) (ho:D.off=false) {i g f b:Nat} {q:ByteArray} (hh:1<=i/\i<=999999/\1<=g/\g<=999999/\1<=f/\f<=1000000000) (hl:lk (segN i g) D.now=some b) (hp:D.fl b=some (q,hdrB i g f)) :
  Calls Tryz.prog 52 #[.pointer (some ⟨bd,0,none⟩),.agg #[.int .i64 (i:Int),.int .i64 (g:Int),.int .i64 (f:Int)]] w fun e w'=>e=.returned (.tuple #[.slice none 0 0,.int .i64 ((hdrB i g f).size:Int),.int .i64 0])/\Below w.heap.size w w':=by
 have mixed:Tryz.prog.follows .mixedOrders=true:=by kernel_rfl
 have HO:=Lib.hid (fun w=>of_ok (bd:=bd) (i:Int) (g:Int) (f:Int) w (by simp only[okH,decide_eq_true_eq];omega));have hrp:readP D (segN i g)=(hdrB i g f,0):=by
  unfold readP;rw[ho,hl];simp[hp]
 have HRD:=Lib.hid (fun(wx:World) (hx:Below w.heap.size w wx)=>read_any (h.ext hx) (segN i g));rw[hrp] at HRD;have HTL:=Lib.hid (fun wx=>tail_head i g f wx hh);clear h ho hh hl hp hrp;unfold sgc at *
 generalize segN i g=s at *
 generalize hdrB i g f=T at *
 have B2:=ext_alloc w (.cells #[.int .i64 (i:Int),.int .i64 (g:Int),.int .i64 (f:Int)] 35);have B0:=Blk.new w #[.int .i64 (i:Int),.int .i64 (g:Int),.int .i64 (f:Int)] 35
 go_enter Tryz.func52, Tryz.ntmps52
 go_upto_region 10 with (first
  |(go_at_call 86;refine(HO.out _).mono ?_;rintro e1 w1 ⟨rfl,hb1⟩;have HW1:=Lib.hid (B2.trans (hb1.mono B2.size));have HB1:=Lib.hid ((B0.ext hb1).alloc (.cells #[.pointer (some ⟨bd,0,none⟩),.int .i64 (i:Int),.int .i64 (g:Int),.int .i64 (f:Int),.string s] 133));clear hb1 B2 B0;have HW2:=Lib.hid (HW1.out.trans ((ext_alloc w1 (.cells #[.pointer (some ⟨bd,0,none⟩),.int .i64 (i:Int),.int .i64 (g:Int),.int .i64 (f:Int),.string s] 133)).mono HW1.out.size)))
  |(go_at_call 87;refine(HRD.out _ HW2.out).mono ?_;rintro e2 w2 ⟨rfl,rfl⟩;have k0:=HB1.out.cell 0 (v:=.int .i64 (i:Int)) rfl;have k1:=HB1.out.cell 1 (v:=.int .i64 (g:Int)) rfl;have k2:=HB1.out.cell 2 (v:=.int .i64 (f:Int)) rfl)
  |(go_at_call 88;refine(HTL.out _).mono ?_;rintro e3 w3 ⟨rfl,hb3⟩;have HW3:=Lib.hid ((HW2.out.trans (hb3.mono HW2.out.size)).trans ((ext_alloc w3 (.cells #[.int .i64 (T.size:Int)] 3)).mono (HW2.out.trans (hb3.mono HW2.out.size)).size));have HE3:=Lib.hid (Blk.new w3 #[.int .i64 (T.size:Int)] 3);clear hb3 k0 k1 k2))
 have z0:=HE3.out.cell 0 (v:=.int .i64 (T.size:Int)) rfl;have z1: ¬ ((T.size:Int)<(T.size:Int)):=by omega
 generalize w3.alloc (.cells #[.int .i64 (T.size:Int)] 3)=w4 at *
 generalize w3.heap.size=be at *
 go_wp2_with fail
 go_quiet (fail)
 go_wp2_with fail
 go_ret3
 exact⟨rfl,below_drewN HW3.out _⟩
end
end Dk
end Go.Proofs.YtphfmgapiimliaaGreat
