/- frame: Put, Get. strings.HasPrefix; scan.begun. disk: Rename, Remove, List. slices.Contains of texts. -/
import Derived.Test.YtejcdhdfanfkbaaGreatFb21
import Derived.Test.YtejcdhdfanfkbaaGreatFb20
import Derived.Test.YtejcdhdfanfkbaaGreatFb18
import Derived.Test.YtejcdhdfanfkbaaGreatFb19
import Derived.Deep.LoopGhost
namespace Go.Proofs.YtejcdhdfanfkbaaGreat
namespace Fm
open Go.RowKit Cr
def frA (k:UInt8) (b:ByteArray):ByteArray:=⟨#[k]⟩++⟨(le 4 b.size).toArray⟩++b
def frB (k:UInt8) (b:ByteArray):ByteArray:=frA k b++⟨(le 4 (crc (frA k b).data.toList)).toArray⟩
theorem size_frA (k:UInt8) (b:ByteArray):(frA k b).size=b.size+5:=by
 unfold frA;rw[ByteArray.size_append,ByteArray.size_append];show 1+(le 4 b.size).toArray.size+b.size=_
 rw[List.size_toArray,length_le];omega
set_option maxHeartbeats 3200000 in
set_option maxRecDepth 100000 in
theorem put_any (k:UInt8) (b:ByteArray) (w:World) (hk:1<=k.toNat/\k.toNat<=4) (hb:b.size<=60000) :
  Calls Tryz.prog 50 #[.int .i64 (k.toNat:Int),.string b] w fun e w'=>e=.returned (.tuple #[.string (frB k b),.int .i64 0])/\Below w.heap.size w w':=by
 have mixed:Tryz.prog.follows .mixedOrders=true:=by kernel_rfl
 have HK:=Lib.hid (known_yes k.toNat w hk);have HF:=Lib.hid (fix_any b.size w (by omega));have q1: ¬ (60000:Int)<(b.size:Int):=by omega
 have q2:(k.toNat:Int)%256=(k.toNat:Int):=by omega
 go_enter Tryz.func50, Tryz.ntmps50
 go_wp2_with fail
 refine HK.out.mono ?_;rintro e1 w1 ⟨rfl,rfl⟩;go_wp2_with fail
 refine HF.out.mono ?_;rintro e2 w2 ⟨rfl,hb2⟩;have hrd:Rd (w2.alloc (.cells #[.int .u8 (k.toNat:Int)] 5)) (w2.alloc (.cells #[.int .u8 (k.toNat:Int)] 5)).heap.size 1 (some ⟨w2.heap.size,0,none⟩) 1 (bv [k]):=Rd.of_own (World.ownsRow_lit (base:=w2.heap.size) (e:=5) (size:=1) w2 #[.int .u8 (k.toNat:Int)] 1 (Nat.le_refl _) (by simp[maxLen]) rfl);have hs:=run_str (l:=[k]) (c:=1) hrd;have HW2:=Lib.hid (hb2.trans ((ext_alloc w2 (.cells #[.int .u8 (k.toNat:Int)] 5)).mono hb2.size));have hl1: ¬ 9223372036854775807<1+(le 4 b.size).length:=by rw[length_le];omega
 have hl2: ¬ 9223372036854775807<1+(le 4 b.size).length+b.size:=by rw[length_le];omega
 have HA:=Lib.hid (show({ data:=#[k] }:ByteArray)++{ data:=(le 4 b.size).toArray }++b=frA k b from rfl);have HOF:=Lib.hid (fun(wx:World)=>of_any (frA k b) wx (by rw[size_frA];omega));have HFX:=Lib.hid (fun(wx:World)=>fix_any (crc (frA k b).data.toList) wx (crc_lt _));have HTA:=Lib.hid (table_any (w2.alloc (.cells #[.int .u8 (k.toNat:Int)] 5)));have hc:=crc_lt (frA k b).data.toList;have HB:=Lib.hid (show frB k b=frA k b++⟨(le 4 (crc (frA k b).data.toList)).toArray⟩ from rfl);have hsz:=size_frA k b;clear hb2 hrd;generalize crc (frA k b).data.toList=C at *
 have h64:IntKind.i64.wrap (C:Int)=(C:Int):=by rw[IntKind.wrap_i64];omega
 go_wp2_with fail
 rw[HA.out];generalize frA k b=F at *
 refine HTA.out.mono ?_;rintro e3 w3 ⟨rfl,hb3⟩;have HW3:=Lib.hid (HW2.out.trans (hb3.mono HW2.out.size));clear hb3 hs hl1 hl2;go_wp2_with fail
 refine(HOF.out w3).mono ?_;rintro e4 w4 ⟨rfl,hb4⟩;have HW4:=Lib.hid (HW3.out.trans (hb4.mono HW3.out.size));clear hb4;go_wp2_with fail
 refine(HFX.out w4).mono ?_;rintro e5 w5 ⟨rfl,hb5⟩;have HW5:=Lib.hid (HW4.out.trans (hb5.mono HW4.out.size));have hl3: ¬ 9223372036854775807<F.size+(le 4 C).length:=by rw[length_le];omega
 clear hb5;go_wp2_with fail
 go_ret2
 exact⟨by rw[HB.out];rfl,HW5.out⟩
set_option maxHeartbeats 3200000 in
set_option maxRecDepth 100000 in
theorem Get_any (s:ByteArray) (p:Nat) (w:World) (hs:s.size<=1000000) (hp:p<=2000000) :
  Calls Tryz.prog 71 #[.string s,.int .i64 (p:Int)] w fun e w'=>FrAns s p e/\Below w.heap.size w w':=by
 have mixed:Tryz.prog.follows .mixedOrders=true:=by kernel_rfl
 have hz:(Tryz.prog.info? 192).map (fun i=>(i.zero,i.size))=some (some (.agg (Array.replicate 256 (.int .u32 0))),256):=by kernel_rfl
 have hsz:(Tryz.prog.info? 192).map (·.size)=some 256:=by kernel_rfl
 have HZ:=Lib.hid hz;have HSI:=Lib.hid hsz;have HT:=Lib.hid (table_any (w.alloc (.cells #[.int .i64 0,.string ⟨#[]⟩,.int .i64 0,.int .i64 0] 139)));have HB0:=Lib.hid (ext_alloc w (.cells #[.int .i64 0,.string ⟨#[]⟩,.int .i64 0,.int .i64 0] 139));have HF0:=Lib.hid (Fb.new w);have HTL:=Lib.hid (show TB.size=256 by unfold TB;rw[List.size_toArray,length_vu,length_n256]);have HT1:=Lib.hid (show TB.all (·.oneCell')=true from all_oneCell_toArray (vu_one _));have HLT:=Lib.hid (show w.heap.size<(w.alloc (.cells #[.int .i64 0,.string ⟨#[]⟩,.int .i64 0,.int .i64 0] 139)).heap.size by simp);clear hz hsz
 go_enter Tryz.func71, Tryz.ntmps71
 go_wp2_with fail
 generalize w.alloc (.cells #[.int .i64 0,.string ⟨#[]⟩,.int .i64 0,.int .i64 0] 139)=w0 at *
 refine HT.out.mono ?_;rintro e1 w1 ⟨rfl,hb1⟩;have HG:=Lib.hid (get_any w1.heap.size s p (w1.alloc (.cells TB 192)) (tb_row w1) hs hp);have HB1:=Lib.hid (HB0.out.trans (hb1.mono HB0.out.size));have HB2:=Lib.hid (HB1.out.trans ((ext_alloc w1 (.cells TB 192)).mono HB1.out.size));have HF2:=Lib.hid ((HF0.out.below hb1 HLT.out).below (ext_alloc w1 (.cells TB 192)) (Nat.lt_of_lt_of_le HLT.out hb1.size));have HL2:=Lib.hid (show w.heap.size<(w1.alloc (.cells TB 192)).heap.size by have:=HLT.out;have:=hb1.size;simp;omega);clear hb1 HT;generalize TB=Z at *
 go_wp2_with (first|(refine wpList_alloc_zero rfl 192 rfl _ _ HZ.out ?_)|(refine wpList_store_new w1 (Array.replicate 256 (.int .u32 0)) rfl 192 (.tmp 6) (.tmp 7) rfl Z (by simp[go_sem,Act.eval]) (by simp[go_sem,Act.eval]) (by rw[HTL.out];exact HSI.out) (by rw[HTL.out];simp) HT1.out ?_))
 generalize w1.alloc (.cells Z 192)=w2 at *
 refine HG.out.mono ?_;rintro e3 w3 ⟨ha,hb3⟩;have HB3:=Lib.hid (HB2.out.trans (hb3.mono HB2.out.size));have HR3:=Lib.hid (HF2.out.below hb3 HL2.out);clear hb3 HG;rcases ha with ⟨hgf,rfl⟩|⟨hgf,x,hx,rfl⟩
 ·have HGF:=Lib.hid hgf
  have hR:=HR3.out;have r0:=hR.c0;have r1:=hR.c1;have r2:=hR.c2;have r3:=hR.c3;have f0:=hR.fz 0;have f1:=hR.fz 1;have f2:=hR.fz 2;have f3:=hR.fz 3;clear hR;unfold fagg;go_wp2_with fail
  refine bodyPost_ret (v:=.tuple #[fagg (by4 s.data.toList p) (fbody s p) p (fto s p),.int .i64 0]) (by simp[results,go_sem,r0,r1,r2,r3,fagg]) rfl ?_;exact⟨.inl ⟨HGF.out,rfl⟩,below_fill4 HB3.out (Nat.le_refl _)⟩
 ·have HGF:=Lib.hid (And.intro hgf hx)
  have hR:=HR3.out;have r0:=hR.c0;have r1:=hR.c1;have r2:=hR.c2;have r3:=hR.c3;have f0:=hR.fz 0;have f1:=hR.fz 1;have f2:=hR.fz 2;have f3:=hR.fz 3;clear hR;unfold fagg;go_wp2_with fail
  refine bodyPost_ret (v:=.tuple #[fagg 0 ⟨#[]⟩ 0 0,.int .i64 x]) (by simp[results,go_sem,r0,r1,r2,r3,fagg]) rfl ?_;exact⟨.inr ⟨HGF.out.1,x,HGF.out.2,rfl⟩,below_fill4 HB3.out (Nat.le_refl _)⟩
end Fm
end Go.Proofs.YtejcdhdfanfkbaaGreat
namespace Go.Proofs.YtejcdhdfanfkbaaGreat
namespace Sn
open Go.RowKit Hd Fm
def preB (s p:ByteArray):Bool:=decide (s.extract 0 p.size=p)
theorem preB_iff (s p:ByteArray):preB s p=true↔s.extract 0 p.size=p:=by unfold preB;rw[decide_eq_true_eq]
set_option maxHeartbeats 1600000 in
set_option maxRecDepth 100000 in
theorem beqL (a b:ByteArray) {r:Bool} (h:decide (a=b)=r):(a.toList==b.toList)=r:=by
 rw[ByteArray.toList_eq,ByteArray.toList_eq];subst h;by_cases hq:a=b
 ·subst hq;simp
 ·rw[decide_eq_false hq,beq_eq_false_iff_ne]
  intro e;obtain⟨⟨a⟩⟩:=a;obtain⟨⟨b⟩⟩:=b;exact hq (by simp only at e;rw[e])
theorem hp1 (s p:ByteArray) (w:World) {b:Bool} (h:preB s p=b):Calls Tryz.prog 263 #[.string s,.string p] w fun e w'=>e=.returned (.bool b)/\w=w':=by
 have mixed:Tryz.prog.follows .mixedOrders=true:=by kernel_rfl
 by_cases hs:p.size<=s.size
 ·have h1:decide (p.size<=s.size)=true:=decide_eq_true hs
  have hb:=Lib.hid (beqL (s.extract 0 p.size) p h);clear h
  go_enter Tryz.func263, Tryz.ntmps263
  go_wp2_with fail
  go_ret
  exact⟨ret_bool hb.out,rfl⟩
 ·have h1:decide (p.size<=s.size)=false:=decide_eq_false hs
  have hb:=Lib.hid (show false=b by
   subst h;rcases hq:preB s p with _|_
   ·rfl
   ·have:=congrArg ByteArray.size ((preB_iff s p).1 hq)
    rw[ByteArray.size_extract] at this;omega)
  clear h
  go_enter Tryz.func263, Tryz.ntmps263
  go_wp2_with fail
  go_ret
  exact⟨ret_bool hb.out,rfl⟩
theorem hp2 (s p:ByteArray) (w:World) {b:Bool} (h:preB s p=b):Calls Tryz.prog 222 #[.string s,.string p] w fun e w'=>e=.returned (.bool b)/\w=w':=by
 have mixed:Tryz.prog.follows .mixedOrders=true:=by kernel_rfl
 have H:=Lib.hid (fun w=>hp1 s p w h);clear h
 go_enter Tryz.func222, Tryz.ntmps222
 go_wp2_with fail
 refine(H.out _).mono ?_;rintro e1 w1 ⟨rfl,rfl⟩;go_wp2_with fail
 go_ret
 exact⟨rfl,rfl⟩
def hdrB (i g f:Nat):ByteArray:=frB 1 (hb i g f)
theorem hb_size (i g f:Nat) (h:1<=i/\i<=999999/\1<=g/\g<=999999/\1<=f/\f<=1000000000):(hb i g f).size<=27:=by
 have h3:=flat_len [i,g,f] (by intro x hx;simp at hx;omega);simp only[List.flatMap_cons,List.flatMap_nil,List.append_nil,List.length_cons,List.length_nil] at h3;unfold hb;show(List.toArray _).size<=27
 rw[List.size_toArray];omega
set_option maxHeartbeats 1600000 in
set_option maxRecDepth 100000 in
theorem begun_ok (s:ByteArray) (i g f:Nat) (w:World) (h:1<=i/\i<=999999/\1<=g/\g<=999999/\1<=f/\f<=1000000000) {b:Bool} (hp:preB s (hdrB i g f)=b) :
  Calls Tryz.prog 170 #[.string s,.agg #[.int .i64 (i:Int),.int .i64 (g:Int),.int .i64 (f:Int)]] w fun e w'=>e=.returned (.tuple #[.int .i64 (if b=true then((hdrB i g f).size:Int) else 0),.bool b])/\Below w.heap.size w w':=by
 have mixed:Tryz.prog.follows .mixedOrders=true:=by kernel_rfl
 have HH:=Lib.hid (hput_yes i g f (w.alloc (.cells #[.int .i64 (i:Int),.int .i64 (g:Int),.int .i64 (f:Int)] 148)) h);have HB:=Lib.hid (ext_alloc w (.cells #[.int .i64 (i:Int),.int .i64 (g:Int),.int .i64 (f:Int)] 148));have HP:=Lib.hid (fun w=>put_any 1 (hb i g f) w (by decide) (by have:=hb_size i g f h;omega));have hsz:=hb_size i g f h;have HX:=Lib.hid (fun w=>hp2 s (hdrB i g f) w hp);have HE:=Lib.hid (show frB 1 (hb i g f)=hdrB i g f from rfl);rw[HE.out] at HP;generalize hdrB i g f=D at *
 generalize hb i g f=E at *
 clear h hp;rcases b with _|_
 all_goals
  go_enter Tryz.func170, Tryz.ntmps170
  go_wp2_with fail
  refine HH.out.mono ?_;rintro e1 w1 ⟨rfl,hb1⟩;have HB1:=Lib.hid (HB.out.trans (hb1.mono HB.out.size));clear hb1;go_wp2_with fail
  refine(HP.out _).mono ?_;rintro e2 w2 ⟨rfl,hb2⟩;have HB2:=Lib.hid (HB1.out.trans (hb2.mono HB1.out.size));clear hb2;go_wp2_with fail
  refine(HX.out _).mono ?_;rintro e3 w3 ⟨rfl,rfl⟩;go_wp2_with fail
  go_ret2
  exact⟨rfl,HB2.out⟩
set_option maxHeartbeats 1600000 in
set_option maxRecDepth 100000 in
theorem begun_no (s:ByteArray) (i g f:Int) (w:World) (h:okH i g f=false) :
  Calls Tryz.prog 170 #[.string s,.agg #[.int .i64 i,.int .i64 g,.int .i64 f]] w fun e w'=>e=.returned (.tuple #[.int .i64 0,.bool false])/\Below w.heap.size w w':=by
 have mixed:Tryz.prog.follows .mixedOrders=true:=by kernel_rfl
 have HH:=Lib.hid (hput_no i g f (w.alloc (.cells #[.int .i64 i,.int .i64 g,.int .i64 f] 148)) h);have HB:=Lib.hid (ext_alloc w (.cells #[.int .i64 i,.int .i64 g,.int .i64 f] 148));clear h
 go_enter Tryz.func170, Tryz.ntmps170
 go_wp2_with fail
 refine HH.out.mono ?_;rintro e1 w1 ⟨rfl,hb1⟩;have HB1:=Lib.hid (HB.out.trans (hb1.mono HB.out.size));clear hb1;go_wp2_with fail
 go_ret2
 exact⟨rfl,HB1.out⟩
end Sn
end Go.Proofs.YtejcdhdfanfkbaaGreat
namespace Go.Proofs.YtejcdhdfanfkbaaGreat
namespace Dk
open Go.RowKit Sn
section
variable {w w':World} {S:Nat->Prop} {bd gN gS:Nat} {v:Value} {D:DS}
theorem app_ren {s t:ByteArray} {b:Nat} {l:List (ByteArray×Nat)} (h0:s≠⟨#[]⟩) (hl:lk s l=some b):(app (t,s,some b) l).length<=l.length:=by
 unfold app;dsimp only;rw[if_neg h0,pt_len,dl_len,hl];have:0<l.length:=List.length_pos_of_mem (lk_mem hl);simp only[Option.isSome_some,if_true];split<;>omega
theorem app_rem {s:ByteArray} {b:Nat} {l:List (ByteArray×Nat)} (hl:lk s l=some b):(app (⟨#[]⟩,s,none) l).length<=l.length:=by
 unfold app;dsimp only;split
 ·omega
 ·rw[dl_len,hl]
  simp only[Option.isSome_some,if_true];omega
set_option maxHeartbeats 3200000 in
set_option maxRecDepth 100000 in
theorem rename_go (h:DiskAt w S bd D) {s t:ByteArray} {b:Nat} (ho:D.off=false) (h0:s≠⟨#[]⟩) (hl:lk s D.now=some b) (ht:Nm.check t.data.toList=0) (hne:s≠t) (hc:D.chg.length<=1000000) :
  Calls Tryz.prog 57 #[.pointer (some ⟨bd,0,none⟩),.string s,.string t] w fun e w'=>e=.returned (.int .i64 (opE D))/\ ∃S',DiskAt w' S' bd (opS false (chgD (t,s,some b)) D)/\Gr S w S' w':=by
 have hF:=find_any h s;unfold findP at hF;rw[ho,hl] at hF;simp only[Bool.false_eq_true,if_false] at hF;unfold ptr at hF;have HN:=Lib.hid (fun wx=>Nm.check_any t wx);rw[ht] at HN;have HC:=Lib.hid (show ∀wx,Below w.heap.size w wx->Calls Tryz.prog 106 #[.pointer (some ⟨bd,0,none⟩),.agg #[.string t,.string s,.pointer (some ⟨b,0,none⟩)]] wx fun e w'=>e=.returned (.int .i64 (opE D))/\ ∃S',DiskAt w' S' bd (opS false (chgD (t,s,some b)) D)/\Gr S w S' w' from fun wx hb=>by
  have hfw:D.fl b≠none:=by
   obtain⟨gN,gS,v,h⟩:=h;exact h.fit.wfN _ (lk_mem hl)
  have hfew:D.now.length<=200:=by
   obtain⟨gN,gS,v,h⟩:=h;exact h.fit.now_few
  refine(changed_any (h.ext hb) (t,s,some b) (fun b' e=>by cases e;exact hfw) (Nat.le_trans (app_ren h0 hl) hfew) hc).mono ?_;rintro e w' ⟨rfl,S',h2,g2⟩;exact⟨rfl,S',h2,(Gr.of_below hb).trans g2⟩)
 have hst:(s.toList==t.toList)=false:=beqL s t (decide_eq_false hne);clear h ho hl ht hc h0
 go_enter Tryz.func57, Tryz.ntmps57
 go_wp2_with (first
  |(go_at_call 105;refine hF.mono ?_;rintro e1 w1 ⟨rfl,rfl⟩)
  |(go_at_call 44;refine(HN.out _).mono ?_;rintro e2 w2 ⟨rfl,hb2⟩;have HB2:=Lib.hid hb2;clear hb2)
  |(go_at_call 106;refine(HC.out _ HB2.out).mono ?_;rintro e5 w5 ⟨rfl,S5,hD5,hG5⟩;have HD5:=Lib.hid (And.intro hD5 hG5);clear hD5 hG5))
 go_ret
 exact⟨rfl,S5,HD5.out⟩
set_option maxHeartbeats 3200000 in
set_option maxRecDepth 100000 in
theorem remove_go (h:DiskAt w S bd D) {s:ByteArray} {b:Nat} (ho:D.off=false) (hl:lk s D.now=some b) (hc:D.chg.length<=1000000) :
  Calls Tryz.prog 53 #[.pointer (some ⟨bd,0,none⟩),.string s] w fun e w'=>e=.returned (.int .i64 (opE D))/\ ∃S',DiskAt w' S' bd (opS false (chgD (⟨#[]⟩,s,none)) D)/\Gr S w S' w':=by
 have hF:=find_any h s;unfold findP at hF;rw[ho,hl] at hF;simp only[Bool.false_eq_true,if_false] at hF;unfold ptr at hF;have HC:=Lib.hid (show Calls Tryz.prog 106 #[.pointer (some ⟨bd,0,none⟩),.agg #[.string ⟨#[]⟩,.string s,.pointer none]] w fun e w'=>e=.returned (.int .i64 (opE D))/\ ∃S',DiskAt w' S' bd (opS false (chgD (⟨#[]⟩,s,none)) D)/\Gr S w S' w' from by
  have hfew:D.now.length<=200:=by
   obtain⟨gN,gS,v,h⟩:=h;exact h.fit.now_few
  exact changed_any h (⟨#[]⟩,s,none) (fun b' e=>by cases e) (Nat.le_trans (app_rem hl) hfew) hc)
 clear h ho hl hc
 go_enter Tryz.func53, Tryz.ntmps53
 go_wp2_with (first
  |(go_at_call 105;refine hF.mono ?_;rintro e1 w1 ⟨rfl,rfl⟩)
  |(go_at_call 106;refine HC.out.mono ?_;rintro e5 w5 ⟨rfl,S5,hD5,hG5⟩;have HD5:=Lib.hid (And.intro hD5 hG5);clear hD5 hG5))
 go_ret
 exact⟨rfl,S5,HD5.out⟩
set_option maxHeartbeats 1600000 in
theorem list_any (h:DiskAt w S bd D) (ho:D.off=false) (hk:∀x∈D.now,x.1.size<=maxLen) :
  Calls Tryz.prog 52 #[.pointer (some ⟨bd,0,none⟩)] w fun e w'=>∃v,e=.returned v/\w'.ownsRow w.heap.size 9 1 v (srt D.now).length ((srt D.now).map Value.string)/\Below w.heap.size w w':=by
 have HU:=Lib.hid (up_any h);have hup:upE D=0:=by unfold upE;rw[ho];rfl
 rw[hup] at HU;obtain⟨gN,gS,v,h⟩:=h;have c0:=h.c0;have HN:=Lib.hid (names_any w h.now (by have:=h.fit.now_few;omega) hk);clear h ho hup hk
 go_enter Tryz.func52, Tryz.ntmps52
 go_wp2_with (first
  |(go_at_call 61;refine HU.out.mono ?_;rintro e1 w1 ⟨rfl,rfl⟩)
  |(go_at_call 64;refine HN.out.mono ?_;rintro e2 w2 ⟨v2,rfl,hown2,hb2⟩;have HO2:=Lib.hid hown2;have HB2:=Lib.hid hb2;clear hown2 hb2))
 go_ret
 exact⟨v2,rfl,HO2.out,HB2.out⟩
end
end Dk
end Go.Proofs.YtejcdhdfanfkbaaGreat
namespace Go.Proofs.YtejcdhdfanfkbaaGreat
namespace Dk
open Go.RowKit Sn
def txv (l:List ByteArray):List Value:=l.map Value.string
def atT (l:List ByteArray) (x:ByteArray):Int:=match l.findIdx? (fun y=>decide (y=x)) with|none=> -1|some k=>k
def inT (x:ByteArray) (l:List ByteArray):Bool:=l.any fun y=>decide (y=x)
theorem inT_iff {x:ByteArray} {l:List ByteArray}:inT x l=true↔x∈l:=by
 unfold inT;rw[List.any_eq_true]
 constructor
 ·rintro ⟨y,hy,e⟩
  rwa [<-of_decide_eq_true e]
 ·exact fun h=>⟨x,h,decide_eq_true rfl⟩
theorem inT_no {x:ByteArray} {l:List ByteArray} (h:x∉l):inT x l=false:=by
 rcases e:inT x l with _|_
 ·rfl
 ·exact absurd (inT_iff.1 e) h
theorem atT_no {l:List ByteArray} {x:ByteArray} (h:∀y∈l,y≠x):atT l x= -1:=by
 unfold atT;rw[List.findIdx?_eq_none_iff.2 (by intro y hy;simpa using h y hy)]
theorem atT_yes {l:List ByteArray} {x:ByteArray} {k:Nat} (h:l[k]? =some x) (hb:∀j y,j<k->l[j]? =some y->y≠x):atT l x=k:=by
 unfold atT;obtain⟨hk,hx⟩:=List.getElem?_eq_some_iff.1 h;rw[(List.findIdx?_eq_some_iff_getElem (p:=fun y=>decide (y=x))).2 ⟨hk,by simpa using hx,fun j hj=>by
  have:=hb j l[j] hj (List.getElem?_eq_getElem (by omega));simpa using this⟩]
theorem atT_mem (l:List ByteArray) (x:ByteArray):0<=atT l x↔x∈l:=by
 unfold atT;rcases h:l.findIdx? (fun y=>decide (y=x)) with _|k
 ·rw[List.findIdx?_eq_none_iff] at h
  simp only[decide_eq_false_iff_not] at h
  constructor
  ·intro hh;exact absurd hh (by decide)
  ·intro hm;exact absurd rfl (h x hm)
 ·obtain⟨hk,hx,-⟩:=List.findIdx?_eq_some_iff_getElem.1 h
  simp only[decide_eq_true_eq] at hx
  constructor
  ·intro _;rw[<-hx];exact List.getElem_mem hk
  ·intro _;simp only;omega
set_option maxHeartbeats 1600000 in
theorem index_any (A:Option Addr) (n c:Nat) (l:List ByteArray) (x:ByteArray) (w:World) (hrd:Rd w w.heap.size 1 A n (txv l)) (hn:n<=1000000) :
  Calls Tryz.prog 104 #[.slice A n c,.string x] w fun e w'=>e=.returned (.int .i64 (atT l x))/\Below w.heap.size w w':=by
 have mixed:Tryz.prog.follows .mixedOrders=true:=by kernel_rfl
 have hln:l.length=n:=by have:=hrd.len;simpa[txv] using this
 have HR:=Lib.hid hrd;have HLN:=Lib.hid hln;clear hrd hln
 go_enter Tryz.func104, Tryz.ntmps104
 go_wp2_with fail
 go_loopw [8] (fun v wr=>∃k:Nat,v=.int .i64 (k:Int)/\k<=n/\Hid ((∀j y,j<k->l[j]? =some y->y≠x)/\Below w.heap.size w wr)) (fun v _=>n-(intOf v).toNat)
 case atStart=>exact⟨0,by go_num,by omega,Lib.hid ⟨fun j y h=>absurd h (by omega),Below.refl _ _⟩⟩
 case round =>
  obtain⟨k,rfl,hk,HX⟩:=hrel;by_cases hkn:k<n
  ·obtain⟨ad,u,hA,hbk,hx,hc⟩:=(HR.out.below HX.out.2).at1 hkn
   obtain⟨y,hy,rfl⟩:∃y,l[k]? =some y/\Value.string y=u:=by
    unfold txv at hx;rw[List.getElem?_map] at hx;rcases hf:l[k]? with _|y
    ·rw[hf] at hx;cases hx
    ·rw[hf] at hx
     exact⟨y,rfl,by simpa using hx⟩
   have HB:=Lib.hid HX.out.2;subst hA;have hki:(k:Int)<(n:Int):=by omega
   by_cases hyx:y=x
   ·have HE:=Lib.hid (show atT l x=(k:Int) from atT_yes (hyx▸hy) HX.out.1)
    have hxy:(x.toList==y.toList)=true:=beqL x y (decide_eq_true hyx.symm);clear hx hy hbk HX hyx;go_wp2_with fail
    go_ret
    exact⟨by rw[HE.out];rfl,HB.out⟩
   ·have HN:=Lib.hid (show ∀j z,j<k+1->l[j]? =some z->z≠x from fun j z hj hz=>by
     rcases Nat.lt_or_ge j k with h|h
     ·exact HX.out.1 j z h hz
     ·obtain rfl:j=k:=by omega
      rw[hy] at hz;cases hz;exact hyx)
    have hxy:(x.toList==y.toList)=false:=beqL x y (decide_eq_false fun e=>hyx e.symm);clear hx hy hbk HX hyx;go_wp2_with fail
    go_roundw
    ·exact⟨k+1,by go_num,by omega,Lib.hid ⟨HN.out,HB.out⟩⟩
    ·simp[intOf];omega
  ·obtain rfl:k=n:=by omega
   have HE:=Lib.hid (show atT l x= -1 from atT_no fun y hy=>by
    obtain⟨j,hj,rfl⟩:=List.getElem_of_mem hy;exact HX.out.1 j _ (by rw[<-HLN.out];exact hj) (List.getElem?_eq_getElem hj))
   have HB:=Lib.hid HX.out.2;clear HX;go_wp2_with fail
   go_ret
   exact⟨by rw[HE.out];rfl,HB.out⟩
set_option maxHeartbeats 1600000 in
theorem contains_any (A:Option Addr) (n c:Nat) (l:List ByteArray) (x:ByteArray) (w:World) (hrd:Rd w w.heap.size 1 A n (txv l)) (hn:n<=1000000) :
  Calls Tryz.prog 51 #[.slice A n c,.string x] w fun e w'=>e=.returned (.bool (inT x l))/\Below w.heap.size w w':=by
 have HI:=Lib.hid (index_any A n c l x w hrd hn);obtain⟨k,hk⟩:∃k,atT l x=k:=⟨_,rfl⟩
 have hm:=atT_mem l x;rw[hk] at HI hm;clear hrd hn hk;by_cases h0:x∈l
 ·rw[inT_iff.2 h0]
  have hk0:=hm.2 h0;clear hm h0
  go_enter Tryz.func51, Tryz.ntmps51
  go_wp2_with (go_at_call 104;refine HI.out.mono ?_;rintro e1 w1 ⟨rfl,hb1⟩;have HB1:=Lib.hid hb1;clear hb1)
  go_ret
  exact⟨by simp,HB1.out⟩
 ·rw[inT_no h0]
  have hk0: ¬ 0<=k:=fun h=>h0 (hm.1 h)
  clear hm h0
  go_enter Tryz.func51, Tryz.ntmps51
  go_wp2_with (go_at_call 104;refine HI.out.mono ?_;rintro e1 w1 ⟨rfl,hb1⟩;have HB1:=Lib.hid hb1;clear hb1)
  go_ret
  exact⟨by simpa using hk0,HB1.out⟩
end Dk
end Go.Proofs.YtejcdhdfanfkbaaGreat
