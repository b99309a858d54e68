/- follow.Load: nothing kept, or places. seg: Create. turn.Load and turn.Clean of an empty disk; open.fresh, open.found of it. -/
import Derived.Test.YtejcdhdfanfkbaaGreatFb37
import Derived.Test.YtejcdhdfanfkbaaGreatFb15
import Derived.Test.YtejcdhdfanfkbaaGreatFb39
import Derived.Test.YtejcdhdfanfkbaaGreatFb29
import Derived.Test.YtejcdhdfanfkbaaGreatFb36
import Derived.Test.YtejcdhdfanfkbaaGreatFb27
namespace Go.Proofs.YtejcdhdfanfkbaaGreat
namespace Fo
open Go.RowKit Hd Rd Fm Sn Dk
open Go.Proofs.YtejcdhdfanfkbaaGreat.Op
section
variable {w w':World} {S:Nat->Prop} {bd:Nat} {D:DS}
set_option maxHeartbeats 3200000 in
set_option maxRecDepth 100000 in
theorem fload_none (h:DiskAt w S bd D) (hr:readP D keptN=(⟨#[]⟩,201)) :
  Calls Tryz.prog 26 #[.pointer (some ⟨bd,0,none⟩)] w fun e w'=>e=.returned (.tuple #[.slice none 0 0,.int .i64 0])/\Below w.heap.size w w':=by
 have mixed:Tryz.prog.follows .mixedOrders=true:=by kernel_rfl
 have HR:=read_any h keptN;rw[hr] at HR;replace HR:=Lib.hid HR;clear h hr;unfold keptN at HR
 go_enter Tryz.func26, Tryz.ntmps26
 go_wp2_with (go_at_call 70;refine HR.out.mono ?_;rintro e1 w1 ⟨rfl,rfl⟩)
 go_ret2
 exact⟨rfl,Below.refl _ _⟩
set_option maxHeartbeats 3200000 in
set_option maxRecDepth 100000 in
theorem fload_some (h:DiskAt w S bd D) {l:List Pl} (hl:chkP l=0) (hr:readP D keptN=(frB 4 ⟨(pL l).toArray⟩,0)) :
  Calls Tryz.prog 26 #[.pointer (some ⟨bd,0,none⟩)] w fun e w'=>(∃A c,e=.returned (.tuple #[.slice A l.length c,.int .i64 0])/\w'.ownsRow w.heap.size 82 2 (.slice A l.length c) l.length (flS l))/\Below w.heap.size w w':=by
 have mixed:Tryz.prog.follows .mixedOrders=true:=by kernel_rfl
 have HR:=read_any h keptN;rw[hr] at HR;replace HR:=Lib.hid HR;have hsz:(⟨(pL l).toArray⟩:ByteArray).size=(pL l).length:=by show(pL l).toArray.size=_;rw[List.size_toArray]
 have hlen:(pL l).length<=10000:=by
  have hk:l.length<=50/\rowP none l=true:=by
   unfold chkP at hl;split at hl
   ·assumption
   ·cases hl
  have a:=flat_pB1 l (rowP_ok hk.2);have b:=Vi.length_putV_le l.length 8 (by omega);unfold pL;rw[List.length_append];omega
 have HFS:=Lib.hid (show((frB 4 ⟨(pL l).toArray⟩).size:Int)=(((⟨(pL l).toArray⟩:ByteArray).size+9:Nat):Int) from by rw[Op.frB_size]);have HGT:=Lib.hid (fun wx=>show Calls Tryz.prog 71 #[.string (frB 4 ⟨(pL l).toArray⟩),.int .i64 0] wx fun e w'=>e=.returned (.tuple #[Fm.fagg 4 ⟨(pL l).toArray⟩ (0:Nat) (((⟨(pL l).toArray⟩:ByteArray).size+9:Nat)),.int .i64 0])/\Below wx.heap.size wx w' from by
  have hz:(frB 4 ⟨(pL l).toArray⟩).size=(pL l).length+9:=by rw[Op.frB_size,hsz]
  refine(Fm.Get_any (frB 4 ⟨(pL l).toArray⟩) 0 wx (by rw[hz];omega) (by omega)).mono ?_;rintro e w' ⟨h,hb⟩;exact⟨Go.Proofs.YtejcdhdfanfkbaaGreat.Gp.frAns_put (k:=4) (b:=⟨(pL l).toArray⟩) (by decide) (by rw[hsz];omega) h,hb⟩)
 have HDE:=Lib.hid (fun wx=>show Calls Tryz.prog 11 #[.string ⟨(pL l).toArray⟩] wx fun e w'=>(∃A c,e=.returned (.tuple #[.slice A l.length c,.int .i64 0])/\w'.ownsRow wx.heap.size 82 2 (.slice A l.length c) l.length (flS l))/\Below wx.heap.size wx w' from by
  refine(fdec_any ⟨(pL l).toArray⟩ (by rw[hsz];omega) wx).mono ?_;rintro e w' ⟨⟨A1,c1,rfl,ho⟩,hb⟩;have e1:deP (⟨(pL l).toArray⟩:ByteArray).data.toList=(0,l):=deP_put l hl;rw[e1] at ho ⊢;exact⟨⟨A1,c1,rfl,ho⟩,hb⟩)
 clear h hr hl hlen hsz;generalize (⟨(pL l).toArray⟩:ByteArray)=B at *
 unfold keptN at HR;have hfs:=HFS.out;generalize frB 4 B=T at *
 unfold Fm.fagg at HGT
 go_enter Tryz.func26, Tryz.ntmps26
 go_wp2_with (first
  |(go_at_call 70;refine HR.out.mono ?_;rintro e1 w1 ⟨rfl,rfl⟩)
  |(go_at_call 71;refine(HGT.out _).mono ?_;rintro e2 w2 ⟨rfl,hb2⟩;have HB2:=Lib.hid hb2;clear hb2)
  |(go_at_call 11;refine(HDE.out _).mono ?_;rintro e3 w3 ⟨⟨A,c,rfl,ho⟩,hb3⟩;have HO:=Lib.hid ho;have HB3:=Lib.hid hb3;clear ho hb3))
 go_ret2
 exact⟨⟨A,c,rfl,own_lower HO.out (by have:=HB2.out.size;simp;omega)⟩,(HB2.out.trans ((ext_alloc _ _).mono HB2.out.size)).trans (HB3.out.mono (by have:=HB2.out.size;simp;omega))⟩
end
end Fo
end Go.Proofs.YtejcdhdfanfkbaaGreat
namespace Go.Proofs.YtejcdhdfanfkbaaGreat
namespace Dk
open Go.RowKit Hd Fm Sn
section
variable {w w':World} {S:Nat->Prop} {bd gN gS:Nat} {v:Value} {D:DS}
set_option maxHeartbeats 3200000 in
set_option maxRecDepth 100000 in
theorem screate_go (h:DiskAt w S bd D) (hc:Calm D) {i g f:Nat} {s:ByteArray} (hh:1<=i/\i<=999999/\1<=g/\g<=999999/\1<=f/\f<=1000000000) (hs:Nm.check s.data.toList=0) (hl:lk s D.now=none) (hn:D.now.length<200) (hch:D.chg.length<=1000000) (h2:(36:Int)+(usedD D:Int)<=D.cap) :
  Calls Tryz.prog 213 #[.agg (sgc bd i g f s)] w fun e w'=>e=.returned (.int .i64 0)/\ ∃b S',D.fl b=none/\DiskAt w' S' bd (d3 s (hdrB i g f) b D)/\Gr S w S' w':=by
 have hbs:=hb_size i g f hh;have HP:=Lib.hid (fun w=>hput_yes i g f w hh);have nlt:∀k,w.heap.size<=k-> ¬ S k:=by
  obtain⟨gN,gS,v,h⟩:=h;exact fun k hk=>h.gt hk
 have HA:=Lib.hid (show ∀w1 w3,Below w.heap.size w w1->Blk w1 w.heap.size (sgc bd i g f s) 219 ->
   w3=(w1.alloc (.cells #[.string (hb i g f)] 9)).alloc (.cells #[.func (.func 265) #[] #[.pointer (some ⟨w.heap.size,0,none⟩)],.func (.func 266) #[] #[.pointer (some ⟨w.heap.size,0,none⟩),.pointer (some ⟨w1.heap.size,0,none⟩)],.func (.func 128) #[.agg (sgc bd i g f s)] #[]] 62) ->
   Calls Tryz.prog 125 #[.slice (some ⟨w1.heap.size+1,0,none⟩) 3 3] w3 fun e w'=>e=.returned (.int .i64 0)/\ ∃b S',D.fl b=none/\DiskAt w' S' bd (d3 s (hdrB i g f) b D)/\Gr S w S' w' from by
  rintro w1 w3 hb1 hS rfl;have e2:=ext_second w1 (.cells #[.string (hb i g f)] 9) (.cells #[.func (.func 265) #[] #[.pointer (some ⟨w.heap.size,0,none⟩)],.func (.func 266) #[] #[.pointer (some ⟨w.heap.size,0,none⟩),.pointer (some ⟨w1.heap.size,0,none⟩)],.func (.func 128) #[.agg (sgc bd i g f s)] #[]] 62);have e3:=hb1.trans (e2.mono hb1.size);refine(create_all (h.ext e3) hc (hS.ext e2) ((Blk.new w1 _ _).alloc _) (blk_second w1 _ _ _) (nlt _ (Nat.le_refl _)) (nlt _ hb1.size) (nlt _ (Nat.le_succ_of_le hb1.size)) hs hl hn hch (by omega) (by omega)).mono ?_;rintro e w' ⟨rfl,b,S',q1,q2,q3⟩;exact⟨rfl,b,S',q1,q2,(Gr.of_below e3).trans q3⟩)
 clear h hc hh hs hl hn hch h2 hbs nlt;unfold sgc at *
 have B0:=Blk.new w #[.pointer (some ⟨bd,0,none⟩),.int .i64 i,.int .i64 g,.int .i64 f,.string s] 219;have B2:=ext_alloc w (.cells #[.pointer (some ⟨bd,0,none⟩),.int .i64 i,.int .i64 g,.int .i64 f,.string s] 219);generalize hb i g f=H at *
 go_enter Tryz.func213, Tryz.ntmps213
 go_wp2_with (first
  |(go_at_call 221;refine(HP.out _).mono ?_;rintro e1 w1 ⟨rfl,hb1⟩;have HB1:=Lib.hid (B0.ext hb1);have HW1:=Lib.hid (B2.trans (hb1.mono B2.size));clear hb1 B0 B2;have k0:=HB1.out.cell 0 (v:=.pointer (some ⟨bd,0,none⟩)) rfl;have k1:=HB1.out.cell 1 (v:=.int .i64 i) rfl;have k2:=HB1.out.cell 2 (v:=.int .i64 g) rfl;have k3:=HB1.out.cell 3 (v:=.int .i64 f) rfl;have k4:=HB1.out.cell 4 (v:=.string s) rfl;have l0:=HB1.out.lt)
  |(go_at_call 125;refine(HA.out _ _ HW1.out HB1.out rfl).mono ?_;rintro e5 w5 ⟨rfl,b,S5,hf5,hD5,hG5⟩;have HD5:=Lib.hid (And.intro hf5 (And.intro hD5 hG5));clear hf5 hD5 hG5))
 go_ret
 exact⟨rfl,b,S5,HD5.out⟩
set_option maxHeartbeats 3200000 in
set_option maxRecDepth 100000 in
theorem Create_go (h:DiskAt w S bd D) (hc:Calm D) {i g f:Nat} (hh:1<=i/\i<=999999/\1<=g/\g<=999999/\1<=f/\f<=1000000000) (hl:lk (segN i g) D.now=none) (hn:D.now.length<200) (hch:D.chg.length<=1000000) (h2:(36:Int)+(usedD D:Int)<=D.cap) :
  Calls Tryz.prog 166 #[.pointer (some ⟨bd,0,none⟩),.agg #[.int .i64 (i:Int),.int .i64 (g:Int),.int .i64 (f:Int)]] w fun e w'=>e=.returned (.int .i64 0)/\ ∃b S',D.fl b=none/\DiskAt w' S' bd (d3 (segN i g) (hdrB i g f) b D)/\Gr S w S' w':=by
 have hs:Nm.check (segN i g).data.toList=0:=Nm.check_seg i g;have HO:=Lib.hid (fun w=>of_ok (bd:=bd) (i:Int) (g:Int) (f:Int) w (by simp only[okH,decide_eq_true_eq];omega));have HC:=Lib.hid (fun(wx:World) (hx:Below w.heap.size w wx)=>screate_go (h.ext hx) hc hh hs hl hn hch h2);clear h hc hh hs hl hn hch h2;unfold sgc at *
 generalize segN i g=s at *
 have B2:=ext_alloc w (.cells #[.int .i64 (i:Int),.int .i64 (g:Int),.int .i64 (f:Int)] 148)
 go_enter Tryz.func166, Tryz.ntmps166
 go_wp2_with (first
  |(go_at_call 123;refine(HO.out _).mono ?_;rintro e1 w1 ⟨rfl,hb1⟩;have HW1:=Lib.hid (B2.trans (hb1.mono B2.size));clear hb1 B2;have HW2:=Lib.hid (HW1.out.trans ((ext_alloc w1 (.cells #[.pointer (some ⟨bd,0,none⟩),.int .i64 i,.int .i64 g,.int .i64 f,.string s] 219)).mono HW1.out.size)))
  |(go_at_call 213;refine(HC.out _ HW2.out).mono ?_;rintro e5 w5 ⟨rfl,b,S5,hf5,hD5,hG5⟩;have HD5:=Lib.hid (And.intro hf5 (And.intro hD5 hG5));clear hf5 hD5 hG5))
 go_ret
 exact⟨rfl,b,S5,HD5.out.1,HD5.out.2.1,(Gr.of_below HW2.out).trans HD5.out.2.2⟩
end
end Dk
end Go.Proofs.YtejcdhdfanfkbaaGreat
namespace Go.Proofs.YtejcdhdfanfkbaaGreat
namespace Dk
open Go.RowKit Hd Rd Fm Sn Nf
open Go.Proofs.YtejcdhdfanfkbaaGreat.Op
section
variable {w w':World} {S:Nat->Prop} {bd gN gS:Nat} {v:Value} {D:DS}
theorem DiskAt.far {g:Nat} (h:DiskAt w S bd D) (hn: ¬ S g) (k:Nat) (v:Value):DiskAt (w.setCell ⟨g,k,none⟩ v) S bd D:=by
 obtain⟨gN,gS,u,h⟩:=h;exact⟨gN,gS,u,h.kept (by simp) fun j hj=>Below.heap_setCell _ ⟨g,k,none⟩ _ j (by rintro rfl;exact hn hj)⟩
theorem _root_.Go.Proofs.YtejcdhdfanfkbaaGreat.Gr.far {S':Nat->Prop} {g:Nat} (h:Gr S w S' w') (hg:w.heap.size<=g) (k:Nat) (v:Value):Gr S w S' (w'.setCell ⟨g,k,none⟩ v) :=
 ⟨h.os,h.tape,h.output,by simp;exact h.size,fun i hi hn=>(Below.heap_setCell w' ⟨g,k,none⟩ v i (by dsimp only;omega)).trans (h.block i hi hn),h.sub⟩
set_option maxHeartbeats 3200000 in
set_option maxRecDepth 100000 in
theorem load_none (h:DiskAt w S bd D) (ho:D.off=false) (hl:lk maniN D.now=none) :
  Calls Tryz.prog 119 #[.pointer (some ⟨bd,0,none⟩)] w fun e w'=>e=.returned (.tuple #[.agg #[.int .i64 0,.int .i64 0,.int .i64 0,.int .i64 0,.slice none 0 0],.int .i64 201])/\Below w.heap.size w w':=by
 have hrp:readP D maniN=(⟨#[]⟩,201):=by
  unfold readP;rw[ho,hl];rfl
 have HRD:=Lib.hid (fun(wx:World) (hx:Below w.heap.size w wx)=>read_any (h.ext hx) maniN);rw[hrp] at HRD;have HM:=Lib.hid (fun w=>manifest_any (w:=w));clear h ho hl hrp;have HN:=Lib.hid (Blk.new w #[.int .i64 0,.int .i64 0,.int .i64 0,.int .i64 0,.slice none 0 0] 70);have HB:=Lib.hid (ext_alloc w (.cells #[.int .i64 0,.int .i64 0,.int .i64 0,.int .i64 0,.slice none 0 0] 70))
 go_enter Tryz.func119, Tryz.ntmps119
 go_wp2_with (first
  |(go_at_call 163;refine(HM.out _).mono ?_;rintro e1 w1 ⟨rfl,rfl⟩)
  |(go_at_call 70;refine(HRD.out _ HB.out).mono ?_;rintro e2 w2 ⟨rfl,rfl⟩)
  |(refine wpList_store_row rfl 70 (.tmp 2) (.tmp 15) rfl w.heap.size #[.int .i64 0,.int .i64 0,.int .i64 0,.int .i64 0,.slice none 0 0] #[.int .i64 0,.int .i64 0,.int .i64 0,.int .i64 0,.slice none 0 0] (by simp[go_sem,Act.eval]) (by simp[go_sem,Act.eval]) HN.out mf_info rfl (by simp[Value.oneCell']) ?_))
 refine bodyPost_ret (v:=.tuple #[.agg #[.int .i64 0,.int .i64 0,.int .i64 0,.int .i64 0,.slice none 0 0],.int .i64 201]) (by exact results_cell2 rfl rfl rfl (HN.out.set #[.int .i64 0,.int .i64 0,.int .i64 0,.int .i64 0,.slice none 0 0]) Tryz.underlying70 rfl mf_info) (by exact rfl) ?_;exact⟨rfl,ext_setRow HB.out (Nat.le_refl _) _⟩
set_option maxHeartbeats 1600000 in
theorem clean_none (h:DiskAt w S bd D) (ho:D.off=false) (hn:D.now=[]) (A:Option Addr) (n c:Nat) :
  Calls Tryz.prog 121 #[.pointer (some ⟨bd,0,none⟩),.slice A n c] w fun e w'=>e=.returned (.tuple #[.int .i64 0,.int .i64 0])/\Below w.heap.size w w':=by
 have hL:=list_any h ho (by rw[hn];intro x hx;cases hx);rw[hn,show(srt []).length=0 from srt_len []] at hL;have HL:=Lib.hid hL;clear h ho hn hL
 go_enter Tryz.func121, Tryz.ntmps121
 go_wp2_with (go_at_call 52;refine HL.out.mono ?_;rintro e1 w1 ⟨v1,rfl,hown,hb1⟩;obtain⟨A1,c1,rfl,-,-⟩:=own_slice hown;have HB1:=Lib.hid hb1;clear hown hb1)
 go_loopw [6,13] (fun s6 s13 wr=>s6=.int .i64 0/\s13=.int .i64 0/\wr=w1) (fun _ _ _=>0)
 case atStart=>exact⟨rfl,by go_num,rfl⟩
 case round =>
  obtain⟨rfl,rfl,rfl⟩:=hrel;go_wp2_with fail
  go_ret2
  exact⟨rfl,HB1.out⟩
def freshD (b bm:Nat) (D:DS):DS:=saveD (frB 4 (mfB m1)) bm (d3 (segN 1 1) (hdrB 1 1 1) b D)
theorem d3_now {s T:ByteArray} {b:Nat} {D:DS} (hl:lk s D.now=none):(d3 s T b D).now=D.now++[(s,b)]:=d1_now hl
theorem calm_d3 (hc:Calm D) (s T:ByteArray) (b:Nat):Calm (d3 s T b D):=((((hc.setF b _).tick).chg _).tick.setF b _).tick.setF b _
theorem fresh_used (hf:Fit D) (hn:D.now=[]) {b:Nat}:usedD (d3 (segN 1 1) (hdrB 1 1 1) b D)=12:=by
 unfold usedD;rw[d3_now (by rw[hn];rfl),hn];show szs _ [(segN 1 1,b)]=12
 have e:(d3 (segN 1 1) (hdrB 1 1 1) b D).fl b=some (⟨#[]⟩++hdrB 1 1 1,⟨#[]⟩++hdrB 1 1 1):=by
  show(if b=b then _ else _)=_
  rw[if_pos rfl]
 unfold szs;rw[e];simp only[Option.map_some,Option.getD_some,ByteArray.size_append,hdr_size];rfl
set_option maxHeartbeats 6400000 in
set_option maxRecDepth 100000 in
theorem fresh_go (h:DiskAt w S bd D) (hc:Calm D) (hn:D.now=[]) (hcap:100<=D.cap) (hch:D.chg.length<=1000) :
  Calls Tryz.prog 120 #[.pointer (some ⟨bd,0,none⟩)] w fun e w'=>∃(G b bm:Nat) (S':Nat->Prop),e=.returned (.tuple #[.agg #[.int .i64 1,.int .i64 2,.int .i64 0,.int .i64 1,.slice (some ⟨G,0,none⟩) 1 1],.int .i64 0])/\w.heap.size<=G/\ ¬ S' G/\Blk w' G (Sh.cl e1).toArray 217/\D.fl b=none/\(d3 (segN 1 1) (hdrB 1 1 1) b D).fl bm=none/\DiskAt w' S' bd (freshD b bm D)/\Gr S w S' w':=by
 have mixed:Tryz.prog.follows .mixedOrders=true:=by kernel_rfl
 have hfit:=h.fit;have hu0:usedD D=0:=by unfold usedD;rw[hn];rfl
 have HNS:=Lib.hid (show ∀k,w.heap.size<=k-> ¬ S k from fun k hk=>by
  obtain⟨gN,gS,v,h⟩:=h;exact h.gt hk)
 have HCL:=Lib.hid (fun(wx:World) (hx:Below w.heap.size w wx)=>clean_none (h.ext hx) hc.off hn none 0 0);have HMN:=Lib.hid (fun w=>mnew_go 1 1 1 w (by decide) (by decide));have HSC:=Lib.hid (fun(wx:World) (hx:Below w.heap.size w wx)=>(Create_go (h.ext hx) hc (i:=1) (g:=1) (f:=1) (by omega) (by rw[hn];rfl) (by rw[hn];simp) (by omega) (by rw[hu0];omega)).mono (R':=fun e w'=>e=.returned (.int .i64 0)/\ ∃b S',D.fl b=none/\DiskAt w' S' bd (d3 (segN 1 1) (hdrB 1 1 1) b D)/\Gr S wx S' w') fun e w' hq=>hq);have HSV:=Lib.hid (show ∀(wx:World) (S':Nat->Prop) (b:Nat) (G:Nat),DiskAt wx S' bd (d3 (segN 1 1) (hdrB 1 1 1) b D)->Blk wx G (Sh.cl e1).toArray 217->Calls Tryz.prog 167 #[.pointer (some ⟨bd,0,none⟩),.agg #[.int .i64 1,.int .i64 2,.int .i64 0,.int .i64 1,.slice (some ⟨G,0,none⟩) 1 1]] wx fun e w'=>e=.returned (.int .i64 0)/\ ∃bm S2,(d3 (segN 1 1) (hdrB 1 1 1) b D).fl bm=none/\DiskAt w' S2 bd (freshD b bm D)/\Gr S' wx S2 w' from fun wx S' b G hD hG=>by
  have e1:(d3 (segN 1 1) (hdrB 1 1 1) b D).now=[(segN 1 1,b)]:=by rw[d3_now (by rw[hn];rfl),hn];rfl
  have hr:Rd wx wx.heap.size 9 (some ⟨G,0,none⟩) 1 (flS [Op.e1]):=rdK_blk (n:=1) (K:=9) hG rfl;refine(Save_go hD (calm_d3 hc _ _ b) (m:=m1) (s:=⟨some ⟨G,0,none⟩,1,1⟩) hr (by show 1<=1000000;omega) m1_ok ?_ ?_ ?_ ?_ ?_ ?_).mono ?_
  ·rw[e1]
   intro x hx;obtain rfl:=List.mem_singleton.1 hx;show(segN 1 1).size<=_
   rw[segN_size];decide
  ·rw[e1,lk_cons,if_neg (seg_temp 1 1)];rfl
  ·rw[e1];simp
  ·show(D.chg++[_]).length<_
   rw[List.length_append];simp only[List.length_cons,List.length_nil];omega
  ·rw[fresh_used hfit hn,m1_size]
   show(14:Int)+9+12<=D.cap
   omega
  ·rw[m1_size];omega
  ·rintro e w' ⟨rfl,bm,S2,q1,q2,q3⟩
   exact⟨rfl,bm,S2,q1,q2,q3⟩)
 clear h hc hn hcap hch hfit hu0;have HN:=Lib.hid (Blk.new w #[.int .i64 0,.int .i64 0,.int .i64 0,.int .i64 0,.slice none 0 0] 70);have HB:=Lib.hid (ext_alloc w (.cells #[.int .i64 0,.int .i64 0,.int .i64 0,.int .i64 0,.slice none 0 0] 70))
 go_enter Tryz.func120, Tryz.ntmps120
 go_upto_region 11 with (first
  |(go_at_call 121;refine(HCL.out _ HB.out).mono ?_;rintro e1 w1 ⟨rfl,hb1⟩;have HB1:=Lib.hid ((HB.out.trans (hb1.mono HB.out.size)).trans ((ext_alloc w1 (.cells #[.int .i64 1,.int .i64 1,.int .i64 1] 148)).mono (HB.out.trans (hb1.mono HB.out.size)).size));have HN1:=Lib.hid ((HN.out.ext hb1).alloc (.cells #[.int .i64 1,.int .i64 1,.int .i64 1] 148));have HH1:=Lib.hid (Blk.new w1 #[.int .i64 1,.int .i64 1,.int .i64 1] 148);clear hb1)
  |(refine wpList_load_row rfl 148 (.tmp 6) rfl w1.heap.size #[.int .i64 1,.int .i64 1,.int .i64 1] _ (by simp[go_sem,Act.eval]) HH1.out Tryz.underlying148 rfl hd_info ?_)
  |(go_at_call 165;refine(HMN.out _).mono ?_;rintro e2 w2 ⟨G,rfl,hG,hlG,hb2⟩;have HG2:=Lib.hid (hG.alloc (.cells #[.int .i64 1,.int .i64 2,.int .i64 0,.int .i64 1,.slice (some ⟨G,0,none⟩) 1 1] 70));have HLG:=Lib.hid (Nat.le_trans HB1.out.size hlG);have HZ2:=Lib.hid (show w.heap.size<w2.heap.size from Nat.lt_of_lt_of_le HN1.out.lt hb2.size);have HGL:=Lib.hid (show G<w2.heap.size from hG.lt);have HB2:=Lib.hid ((HB1.out.trans (hb2.mono HB1.out.size)).trans ((ext_alloc w2 (.cells #[.int .i64 1,.int .i64 2,.int .i64 0,.int .i64 1,.slice (some ⟨G,0,none⟩) 1 1] 70)).mono (HB1.out.trans (hb2.mono HB1.out.size)).size));have HN2:=Lib.hid ((HN1.out.ext hb2).alloc (.cells #[.int .i64 1,.int .i64 2,.int .i64 0,.int .i64 1,.slice (some ⟨G,0,none⟩) 1 1] 70));have HH1:=Lib.hid ((HH1.out.ext hb2).alloc (.cells #[.int .i64 1,.int .i64 2,.int .i64 0,.int .i64 1,.slice (some ⟨G,0,none⟩) 1 1] 70));have HM2:=Lib.hid (Blk.new w2 #[.int .i64 1,.int .i64 2,.int .i64 0,.int .i64 1,.slice (some ⟨G,0,none⟩) 1 1] 70);clear hb2 hG hlG)
  |(go_at_call 166;refine(HSC.out _ HB2.out).mono ?_;rintro e3 w3 ⟨rfl,b,S3,hbn,hD3,hg3⟩;have HD3:=Lib.hid hD3;have HG3:=Lib.hid hg3;have HBN:=Lib.hid hbn;clear hD3 hg3 hbn))
 have HGR3:=Lib.hid ((Gr.of_below HB2.out).trans HG3.out);have nN:=HG3.out.out HN2.out.lt (HNS.out _ (Nat.le_refl _));have nM:=HG3.out.out HM2.out.lt (HNS.out _ (Nat.le_of_lt HZ2.out));have nG:=HG3.out.out HG2.out.lt (HNS.out _ HLG.out);have hN3:=HG3.out.blk HN2.out (HNS.out _ (Nat.le_refl _));have hM3:=HG3.out.blk HM2.out (HNS.out _ (Nat.le_of_lt HZ2.out));have hG3:=HG3.out.blk HG2.out (HNS.out _ HLG.out);have hmn:w2.heap.size≠w.heap.size:=Nat.ne_of_gt HZ2.out;have hgn:G≠w.heap.size:=by
  intro e;have:=hG3;rw[e] at this;have h2:=hN3;unfold Blk at this h2;rw[h2] at this;simp at this
 have hdw:Below w3.heap.size w3 w3.drew:=⟨rfl,rfl,rfl,Nat.le_refl _,fun _ _=>rfl⟩
 have HD:=Lib.hid (show DiskAt w3.drew S3 bd (d3 (segN 1 1) (hdrB 1 1 1) b D)/\Blk w3.drew G (Sh.cl e1).toArray 217 from⟨HD3.out.ext hdw,hG3⟩);have HMD:=Lib.hid (show Blk w3.drew w2.heap.size #[.int .i64 1,.int .i64 2,.int .i64 0,.int .i64 1,.slice (some ⟨G,0,none⟩) 1 1] 70 from hM3);have HND:=Lib.hid (show Blk w3.drew w.heap.size #[.int .i64 0,.int .i64 0,.int .i64 0,.int .i64 0,.slice none 0 0] 70 from hN3);have HRD:=Lib.hid (show Gr S w S3 w3.drew from HGR3.out.drewN 1);have HNN:=Lib.hid (And.intro nN (And.intro nM nG));have HLG2:=HLG;have HGN:=Lib.hid hgn;clear HGR3 nN nM nG hN3 hM3 hG3 hmn hgn hdw HG3 HD3 HB HB1 HB2 HN HN1 HN2 HH1 HM2 HG2 HZ2 HGL HLG HSC HMN HCL;generalize w2.heap.size=bm2 at *
 have k0:=HMD.out.cell 0 (v:=.int .i64 1) rfl;have k1:=HMD.out.cell 1 (v:=.int .i64 2) rfl;have k2:=HMD.out.cell 2 (v:=.int .i64 0) rfl;have k3:=HMD.out.cell 3 (v:=.int .i64 1) rfl;have k4:=HMD.out.cell 4 (v:=.slice (some ⟨G,0,none⟩) 1 1) rfl;go_region_with (go_at_call 167;refine(HSV.out _ _ _ _ HD.out.1 HD.out.2).mono ?_;rintro e9 w9 ⟨rfl,bm,S9,hbm,hD9,hg9⟩;have HM9:=Lib.hid (hg9.blk HMD.out HNN.out.2.1);have HN9:=Lib.hid (hg9.blk HND.out HNN.out.1);have HD9:=Lib.hid (And.intro hbm (And.intro hD9 (And.intro (HRD.out.trans hg9) (And.intro (hg9.out HMD.out.lt HNN.out.2.1) (And.intro (hg9.out HND.out.lt HNN.out.1) (And.intro (hg9.out HD.out.2.lt HNN.out.2.2) (hg9.blk HD.out.2 HNN.out.2.2)))))));clear hbm hD9 hg9;have l0:=HM9.out.cell 0 (v:=.int .i64 1) rfl;have l1:=HM9.out.cell 1 (v:=.int .i64 2) rfl;have l2:=HM9.out.cell 2 (v:=.int .i64 0) rfl;have l3:=HM9.out.cell 3 (v:=.int .i64 1) rfl;have l4:=HM9.out.cell 4 (v:=.slice (some ⟨G,0,none⟩) 1 1) rfl;have c0:=HN9.out.cell 0 (v:=.int .i64 0) rfl;have f0:=HN9.out.fz 0;have c1:=HN9.out.cell 1 (v:=.int .i64 0) rfl;have f1:=HN9.out.fz 1;have c2:=HN9.out.cell 2 (v:=.int .i64 0) rfl;have f2:=HN9.out.fz 2;have c3:=HN9.out.cell 3 (v:=.int .i64 0) rfl;have f3:=HN9.out.fz 3;have c4:=HN9.out.cell 4 (v:=.slice none 0 0) rfl;have f4:=HN9.out.fz 4)
 all_goals
  have HE:=Lib.hid (show Blk _ w.heap.size #[.int .i64 1,.int .i64 2,.int .i64 0,.int .i64 1,.slice (some ⟨G,0,none⟩) 1 1] 70 from(((((HN9.out.put 0 (.int .i64 1)).put 1 (.int .i64 2)).put 2 (.int .i64 0)).put 3 (.int .i64 1)).put 4 (.slice (some ⟨G,0,none⟩) 1 1)));have HF:=Lib.hid (And.intro (((((HD9.out.2.1.far HD9.out.2.2.2.2.1 0 (.int .i64 1)).far HD9.out.2.2.2.2.1 1 (.int .i64 2)).far HD9.out.2.2.2.2.1 2 (.int .i64 0)).far HD9.out.2.2.2.2.1 3 (.int .i64 1)).far HD9.out.2.2.2.2.1 4 (.slice (some ⟨G,0,none⟩) 1 1))
   (And.intro (((((HD9.out.2.2.1.far (Nat.le_refl _) 0 (.int .i64 1)).far (Nat.le_refl _) 1 (.int .i64 2)).far (Nat.le_refl _) 2 (.int .i64 0)).far (Nat.le_refl _) 3 (.int .i64 1)).far (Nat.le_refl _) 4 (.slice (some ⟨G,0,none⟩) 1 1))
   (((((HD9.out.2.2.2.2.2.2.setCell (j:=0) HGN.out (.int .i64 1)).setCell (j:=1) HGN.out (.int .i64 2)).setCell (j:=2) HGN.out (.int .i64 0)).setCell (j:=3) HGN.out (.int .i64 1)).setCell (j:=4) HGN.out (.slice (some ⟨G,0,none⟩) 1 1))))
  go_wp2_with fail
  refine bodyPost_ret (v:=.tuple #[.agg #[.int .i64 1,.int .i64 2,.int .i64 0,.int .i64 1,.slice (some ⟨G,0,none⟩) 1 1],.int .i64 0]) (by exact results_cell2 rfl rfl rfl HE.out Tryz.underlying70 rfl mf_info) (by exact rfl) ?_;exact⟨G,b,bm,S9,rfl,HLG2.out,HD9.out.2.2.2.2.2.1,HF.out.2.2,HBN.out,HD9.out.1,HF.out.1,HF.out.2.1⟩
end
end Dk
end Go.Proofs.YtejcdhdfanfkbaaGreat
