/- mani.Decode of the first manifest's bytes. turn.Load of a manifest, turn.Names of the first one, turn.Clean where all is kept. turn.Names of the first manifest. -/
import Derived.Test.YtphfmgapiimliaaGreatSc42
import Derived.Test.YtphfmgapiimliaaGreatSc08
import Derived.Test.YtphfmgapiimliaaGreatSc10
import Derived.Test.YtphfmgapiimliaaGreatSc36
import Derived.Test.YtphfmgapiimliaaGreatSc30
import Derived.Test.YtphfmgapiimliaaGreatSc29
import Derived.Test.YtphfmgapiimliaaGreatSc39
namespace Go.Proofs.YtphfmgapiimliaaGreat
namespace Md
open Go.RowKit Hd Rd Fm Sn Nf Dk Tk
open Go.Proofs.YtphfmgapiimliaaGreat.Op Go.Proofs.YtphfmgapiimliaaGreat.Rf
set_option maxHeartbeats 6400000 in
set_option maxRecDepth 100000 in
theorem decode1 {s:ByteArray} (hm:Mb s) (w:World) :
  Calls Tryz.prog 129 #[.string s] w fun e w'=>(∃G c,e=.returned (.tuple #[.agg #[.int .i64 1,.int .i64 2,.int .i64 0,.int .i64 1,.slice (some ⟨G,0,none⟩) 1 c],.int .i64 0])/\w'.ownsRow w.heap.size 48 9 (.slice (some ⟨G,0,none⟩) 1 c) 1 (flS [e1]))/\Below w.heap.size w w':=by
 have mixed:Tryz.prog.follows .mixedOrders=true:=by kernel_rfl
 have HTN:=Lib.hid (fun wx=>takeNew_any s wx);have HCK:=Lib.hid (show ∀(wx:World) (g c:Nat),Rd wx wx.heap.size 9 (some ⟨g,0,none⟩) 1 (flS [e1])->Calls Tryz.prog 61 #[.agg #[.int .i64 1,.int .i64 2,.int .i64 0,.int .i64 1,.slice (some ⟨g,0,none⟩) 1 c]] wx fun e w'=>e=.returned (.int .i64 0)/\Below wx.heap.size wx w' from fun wx g c hr=>by
  have:=mcheck_any m1 ⟨some ⟨g,0,none⟩,1,c⟩ wx hr (by show 1<=1000000;omega);rw[show mfE m1=0 from if_pos m1_ok] at this;exact this)
 have HCA:=Lib.hid (show ∀(wx:World) (b bt bm:Nat),Ta wx b s 0->Var wx bt 235 (.pointer (some ⟨b,0,none⟩))->Blk wx bm #[.int .i64 0,.int .i64 0,.int .i64 0,.int .i64 0,.slice none 0 0] 26->(w.heap.size<b/\b<bt/\bt<bm) ->
   Calls Tryz.prog 179 #[.func (.func 174) #[] #[.pointer (some ⟨bt,0,none⟩),.pointer (some ⟨bm,0,none⟩)]] wx fun e w'=>e=.returned (.tuple #[.int .i64 0,.int .i64 0])/\(∃G c,Blk w' bm #[.int .i64 1,.int .i64 2,.int .i64 0,.int .i64 1,.slice (some ⟨G,0,none⟩) 1 c] 26/\w'.ownsRow wx.heap.size 48 9 (.slice (some ⟨G,0,none⟩) 1 c) 1 (flS [e1]))/\Keep wx w' [b,bm] from fun wx b bt bm hTa hVt hBm hne=>by
  have hbs:=hBm.lt;have hB:Below wx.heap.size wx (wC wx):=wC_keep wx;have hsz:(wC wx).heap.size=wx.heap.size+2:=by unfold wC;simp
  have hD:Dj (wC wx) b bt bm s 0 #[.int .i64 0,.int .i64 0,.int .i64 0,.int .i64 0,.slice none 0 0] (wC wx):=⟨(hB.block b hTa.lt).trans hTa,hVt.below hB hVt.lt,hBm.ext hB,Keep.refl _ _⟩
  have hget:=dec1 hm (wC wx) b bt bm hD (by omega) (by omega) (by omega);refine(caught_ok 174 wx #[.pointer (some ⟨bt,0,none⟩),.pointer (some ⟨bm,0,none⟩)] (fun w'=>∃G c,Blk w' bm #[.int .i64 1,.int .i64 2,.int .i64 0,.int .i64 1,.slice (some ⟨G,0,none⟩) 1 c] 26/\w'.ownsRow (wC wx).heap.size 48 9 (.slice (some ⟨G,0,none⟩) 1 c) 1 (flS [e1])/\Keep (wC wx) w' [b,bm]) ?_ (enters_of Tryz.func174 (by kernel_rfl) rfl) ?_).mono ?_
  ·rintro w' ⟨_,_,-,-,k⟩
   obtain⟨v1,v2⟩:=wC_vars wx;exact⟨k.var v1 (by simp;omega),k.var v2 (by simp;omega)⟩
  ·exact hget
  ·rintro e w' ⟨rfl,w2,⟨G,c,q1,q2,q3⟩,q4⟩
   have hlt:=World.ownsRow.lt q2;refine⟨rfl,⟨G,c,(q4.blk bm (by have:=q3.size;have:=hB.size;omega) (by simp;omega)).trans q1,?_⟩,?_⟩
   ·refine own_lower (own_block q2 fun g hg=>q4.blk g (hlt g hg).2 ?_) (by omega)
    have:=(hlt g hg).1;simp;omega
   ·refine⟨q4.os.trans (q3.os.trans hB.os),q4.tape.trans (q3.tape.trans hB.tape),q4.output.trans (q3.output.trans hB.output),Nat.le_trans hB.size (Nat.le_trans q3.size q4.size),fun k hk hl=>?_⟩
    exact(q4.blk k (by have:=q3.size;have:=hB.size;omega) (by simp;omega)).trans ((q3.blk k (by have:=hB.size;omega) hl).trans (hB.block k hk)))
 clear hm;have HR:=Lib.hid (Blk.new w #[.int .i64 0,.int .i64 0,.int .i64 0,.int .i64 0,.slice none 0 0] 26);have HB:=Lib.hid (ext_alloc w (.cells #[.int .i64 0,.int .i64 0,.int .i64 0,.int .i64 0,.slice none 0 0] 26))
 go_enter Tryz.func129, Tryz.ntmps129
 go_upto_region 1 with fail
 have hsz:(w.alloc (.cells #[.int .i64 0,.int .i64 0,.int .i64 0,.int .i64 0,.slice none 0 0] 26)).heap.size=w.heap.size+1:=by simp
 have HSZ:=Lib.hid hsz;clear hsz;generalize w.alloc (.cells #[.int .i64 0,.int .i64 0,.int .i64 0,.int .i64 0,.slice none 0 0] 26)=w0 at *
 go_upto_region 2 with (go_at_call 173;refine(HTN.out _).mono ?_;rintro e1 w1 ⟨rfl,ht1,hb1⟩;have HT1:=Lib.hid (And.intro ht1 hb1);clear ht1 hb1)
 have hw1:w0.heap.size<w1.heap.size:=HT1.out.1.lt;have HV2:=Lib.hid (Var.new w1 235 (.pointer (some ⟨w0.heap.size,0,none⟩)));have HT2:=Lib.hid (show Ta (w1.alloc (.cells #[.pointer (some ⟨w0.heap.size,0,none⟩)] 235)) w0.heap.size s 0 from(Below.heap_alloc w1 _ _ hw1).trans HT1.out.1);have HB2:=Lib.hid ((HB.out.trans (HT1.out.2.mono HB.out.size)).trans ((ext_alloc w1 (.cells #[.pointer (some ⟨w0.heap.size,0,none⟩)] 235)).mono (HB.out.trans (HT1.out.2.mono HB.out.size)).size));have HR2:=Lib.hid ((HR.out.ext HT1.out.2).alloc (.cells #[.pointer (some ⟨w0.heap.size,0,none⟩)] 235));have HO2:=Lib.hid (show w.heap.size<w0.heap.size/\w0.heap.size<w1.heap.size from⟨by have:=HSZ.out;omega,hw1⟩);clear hw1 HT1 HB HR HSZ HTN;generalize w1.alloc (.cells #[.pointer (some ⟨w0.heap.size,0,none⟩)] 235)=w2 at *
 generalize w0.heap.size=b at *
 generalize w1.heap.size=bt at *
 go_upto_region 3 with fail
 have HV4:=Lib.hid (HV2.out.alloc (.cells #[.int .i64 0,.int .i64 0,.int .i64 0,.int .i64 0,.slice none 0 0] 26));have HT4:=Lib.hid (show Ta (w2.alloc (.cells #[.int .i64 0,.int .i64 0,.int .i64 0,.int .i64 0,.slice none 0 0] 26)) b s 0 from(Below.heap_alloc w2 _ _ HT2.out.lt).trans HT2.out);have HB4:=Lib.hid (HB2.out.trans ((ext_alloc w2 (.cells #[.int .i64 0,.int .i64 0,.int .i64 0,.int .i64 0,.slice none 0 0] 26)).mono HB2.out.size));have HR4:=Lib.hid (HR2.out.alloc (.cells #[.int .i64 0,.int .i64 0,.int .i64 0,.int .i64 0,.slice none 0 0] 26));have HH4:=Lib.hid (Blk.new w2 #[.int .i64 0,.int .i64 0,.int .i64 0,.int .i64 0,.slice none 0 0] 26);have HO4:=Lib.hid (show w.heap.size<b/\b<bt/\bt<w2.heap.size from⟨HO2.out.1,HO2.out.2,HV2.out.lt⟩);clear HV2 HT2 HB2 HR2 HO2;generalize w2.alloc (.cells #[.int .i64 0,.int .i64 0,.int .i64 0,.int .i64 0,.slice none 0 0] 26)=w4 at *
 generalize w2.heap.size=bm at *
 go_upto_region 7 with (go_at_call 179;refine(HCA.out _ _ _ _ HT4.out HV4.out HH4.out HO4.out).mono ?_;rintro e5 w5 ⟨rfl,⟨G,c,hh5,ho5⟩,hk5⟩;have HH5:=Lib.hid (And.intro hh5 hk5);have HO5:=Lib.hid ho5;clear hh5 hk5 ho5)
 have HB5:=Lib.hid (HB4.out.trans (HH5.out.2.below HB4.out.size (by have:=HO4.out;simp;omega)));have HR5:=Lib.hid (show Blk w5 w.heap.size #[.int .i64 0,.int .i64 0,.int .i64 0,.int .i64 0,.slice none 0 0] 26 from(HH5.out.2.blk _ HR4.out.lt (by have:=HO4.out;simp;omega)).trans HR4.out);have HG5:=Lib.hid (own_lower HO5.out HB4.out.size);have HGN:=Lib.hid (show w.heap.size<G from Nat.lt_of_lt_of_le HR4.out.lt (World.ownsRow.lt HO5.out G rfl).1);clear HV4 HT4 HB4 HR4 HH4 HCA HO5;go_wp2_with (first
  |(refine wpList_load_row rfl 26 (.tmp 5) rfl bm #[.int .i64 1,.int .i64 2,.int .i64 0,.int .i64 1,.slice (some ⟨G,0,none⟩) 1 c] _ (by simp[go_sem,Act.eval]) HH5.out.1 Tryz.underlying26 rfl mf_info ?_)
  |(go_at_call 61;refine(HCK.out _ _ _ (Rd.of_own HG5.out)).mono ?_;rintro e6 w6 ⟨rfl,hb6⟩;have HH6:=Lib.hid (HH5.out.1.ext hb6);have HR6:=Lib.hid (HR5.out.ext hb6);have HB6:=Lib.hid (HB5.out.trans (hb6.mono HB5.out.size));have HG6:=Lib.hid (own_block HG5.out fun g hg=>hb6.block g (World.ownsRow.lt HG5.out g hg).2);clear hb6)
  |(refine wpList_load_row rfl 26 (.tmp 5) rfl bm #[.int .i64 1,.int .i64 2,.int .i64 0,.int .i64 1,.slice (some ⟨G,0,none⟩) 1 c] _ (by simp[go_sem,Act.eval]) HH6.out Tryz.underlying26 rfl mf_info ?_)
  |(refine wpList_store_row rfl 26 (.tmp 2) (.tmp 29) rfl w.heap.size #[.int .i64 1,.int .i64 2,.int .i64 0,.int .i64 1,.slice (some ⟨G,0,none⟩) 1 c] #[.int .i64 0,.int .i64 0,.int .i64 0,.int .i64 0,.slice none 0 0] (by simp[go_sem,Act.eval]) (by simp[go_sem,Act.eval]) HR6.out mf_info rfl (by simp[Value.oneCell']) ?_))
 refine bodyPost_ret (v:=.tuple #[.agg #[.int .i64 1,.int .i64 2,.int .i64 0,.int .i64 1,.slice (some ⟨G,0,none⟩) 1 c],.int .i64 0]) (by exact results_cell2 rfl rfl rfl (HR6.out.set #[.int .i64 1,.int .i64 2,.int .i64 0,.int .i64 1,.slice (some ⟨G,0,none⟩) 1 c]) Tryz.underlying26 rfl mf_info) (by exact rfl) ?_;exact⟨⟨G,c,rfl,own_block HG6.out fun g hg=>setRow_other w6 _ g _ (by simp only[Value.ownBlock,Option.map_some,Option.some.injEq] at hg;have:=HGN.out;omega)⟩,ext_setRow HB6.out (Nat.le_refl _) _⟩
end Md
end Go.Proofs.YtphfmgapiimliaaGreat
namespace Go.Proofs.YtphfmgapiimliaaGreat
namespace Tn
open Go.RowKit Hd Rd Fm Sn Nf Dk Gp Sv
open Go.Proofs.YtphfmgapiimliaaGreat.Op Go.Proofs.YtphfmgapiimliaaGreat.Rf
section
variable {w w':World} {S:Nat->Prop} {bd gN gS:Nat} {v:Value} {D:DS}
theorem get_mani (w:World):Calls Tryz.prog 128 #[.string (frB 4 (mfB m1)),.int .i64 0] w fun e w'=>e=.returned (.tuple #[.agg #[.int .i64 4,.string (mfB m1),.int .i64 0,.int .i64 23],.int .i64 0])/\Below w.heap.size w w':=by
 have hz:(frB 4 (mfB m1)).size=23:=by rw[Op.frB_size,m1_size]
 refine(Fm.Get_any (frB 4 (mfB m1)) 0 w (by rw[hz];omega) (by omega)).mono ?_;rintro e w' ⟨h,hb⟩;have:=frAns_put (k:=4) (b:=mfB m1) (by decide) (by rw[m1_size];omega) h;rw[m1_size] at this;exact⟨this,hb⟩
set_option maxHeartbeats 6400000 in
set_option maxRecDepth 100000 in
theorem load_one (h:DiskAt w S bd D) (ho:D.off=false) {b:Nat} {q:ByteArray} (hl:lk maniN D.now=some b) (hp:D.fl b=some (q,frB 4 (mfB m1))) :
  Calls Tryz.prog 82 #[.pointer (some ⟨bd,0,none⟩)] w fun e w'=>(∃G c,e=.returned (.tuple #[.agg #[.int .i64 1,.int .i64 2,.int .i64 0,.int .i64 1,.slice (some ⟨G,0,none⟩) 1 c],.int .i64 0])/\w'.ownsRow w.heap.size 48 9 (.slice (some ⟨G,0,none⟩) 1 c) 1 (flS [e1]))/\Below w.heap.size w w':=by
 have mixed:Tryz.prog.follows .mixedOrders=true:=by kernel_rfl
 have hrp:readP D maniN=(frB 4 (mfB m1),0):=by
  unfold readP;rw[ho,hl];simp[hp]
 have HRD:=Lib.hid (fun(wx:World) (hx:Below w.heap.size w wx)=>read_any (h.ext hx) maniN);rw[hrp] at HRD;have HM:=Lib.hid (fun w=>manifest_any (w:=w));have HGT:=Lib.hid (fun wx=>get_mani wx);have HDC:=Lib.hid (fun wx=>Md.decode1 Md.mb_m1 wx);have hT:((frB 4 (mfB m1)).size:Int)=23:=by rw[Op.frB_size,m1_size];rfl
 clear h ho hl hp hrp;generalize frB 4 (mfB m1)=T at *
 generalize mfB m1=M at *
 have HN:=Lib.hid (Blk.new w #[.int .i64 0,.int .i64 0,.int .i64 0,.int .i64 0,.slice none 0 0] 26);have HB:=Lib.hid (ext_alloc w (.cells #[.int .i64 0,.int .i64 0,.int .i64 0,.int .i64 0,.slice none 0 0] 26))
 go_enter Tryz.func82, Tryz.ntmps82
 go_upto_region 5 with (first
  |(go_at_call 114;refine(HM.out _).mono ?_;rintro e1 w1 ⟨rfl,rfl⟩)
  |(go_at_call 87;refine(HRD.out _ HB.out).mono ?_;rintro e2 w2 ⟨rfl,rfl⟩)
  |(go_at_call 128;refine(HGT.out _).mono ?_;rintro e3 w3 ⟨rfl,hb3⟩;have HB3:=Lib.hid hb3;clear hb3))
 have hb4:=HB3.out.trans ((ext_alloc w3 (.cells #[.int .i64 4,.string M,.int .i64 0,.int .i64 23] 177)).mono HB3.out.size);have HN4:=Lib.hid (HN.out.ext hb4);have HB4:=Lib.hid (HB.out.trans (hb4.mono HB.out.size));have HF4:=Lib.hid (Blk.new w3 #[.int .i64 4,.string M,.int .i64 0,.int .i64 23] 177);clear hb4 HN HB HB3;generalize w3.alloc (.cells #[.int .i64 4,.string M,.int .i64 0,.int .i64 23] 177)=w4 at *
 generalize w3.heap.size=bf at *
 have f0:=HF4.out.cell 0 (v:=.int .i64 4) rfl;have f1:=HF4.out.cell 1 (v:=.string M) rfl;have f3:=HF4.out.cell 3 (v:=.int .i64 23) rfl;go_wp2_with (first
  |(go_at_call 129;refine(HDC.out _).mono ?_;rintro e5 w5 ⟨⟨G,c,rfl,ho5⟩,hb5⟩;have HN5:=Lib.hid (HN4.out.ext hb5);have HB5:=Lib.hid (HB4.out.trans (hb5.mono HB4.out.size));have HO5:=Lib.hid (own_lower ho5 HB4.out.size);have HGN:=Lib.hid (show w.heap.size<G from Nat.lt_of_lt_of_le HN4.out.lt (World.ownsRow.lt ho5 G rfl).1);clear hb5 ho5 f0 f1 f3)
  |(refine wpList_store_row rfl 26 (.tmp 2) (.tmp 40) rfl w.heap.size #[.int .i64 1,.int .i64 2,.int .i64 0,.int .i64 1,.slice (some ⟨G,0,none⟩) 1 c] #[.int .i64 0,.int .i64 0,.int .i64 0,.int .i64 0,.slice none 0 0] (by simp[go_sem,Act.eval]) (by simp[go_sem,Act.eval]) HN5.out mf_info rfl (by simp[Value.oneCell']) ?_))
 refine bodyPost_ret (v:=.tuple #[.agg #[.int .i64 1,.int .i64 2,.int .i64 0,.int .i64 1,.slice (some ⟨G,0,none⟩) 1 c],.int .i64 0]) (by exact results_cell2 rfl rfl rfl (HN5.out.set #[.int .i64 1,.int .i64 2,.int .i64 0,.int .i64 1,.slice (some ⟨G,0,none⟩) 1 c]) Tryz.underlying26 rfl mf_info) (by exact rfl) ?_;exact⟨⟨G,c,rfl,own_block HO5.out fun g hg=>setRow_other w5 _ g _ (by simp only[Value.ownBlock,Option.map_some,Option.some.injEq] at hg;have:=HGN.out;omega)⟩,ext_setRow HB5.out (Nat.le_refl _) _⟩
set_option maxHeartbeats 3200000 in
theorem clean_keep (h:DiskAt w S bd D) (ho:D.off=false) (hk:∀x∈D.now,x.1.size<=maxLen) (K:List ByteArray) (hall:∀x∈D.now,x.1∈K) (A:Option Addr) (n c:Nat) (hr:Rd w w.heap.size 1 A n (txv K)) (hn:n<=1000000) :
  Calls Tryz.prog 84 #[.pointer (some ⟨bd,0,none⟩),.slice A n c] w fun e w'=>e=.returned (.tuple #[.int .i64 0,.int .i64 0])/\Below w.heap.size w w':=by
 have HL:=Lib.hid (list_any h ho hk);have hin:∀x∈srt D.now,inT x K=true:=fun x hx=>by
  obtain⟨y,hy,rfl⟩:=(srt_mem _ _).1 hx;exact inT_iff.2 (hall y hy)
 have HIN:=Lib.hid hin;have HC:=Lib.hid (fun(x:ByteArray) (wx:World) (hx:Below w.heap.size w wx)=>contains_any A n c K x wx ((hr.below hx).more hx.size) hn);have hfew:(srt D.now).length<=200:=by
  rw[srt_len];exact h.fit.now_few
 have HZ:=Lib.hid hfew;clear h ho hk hall hr hn hin hfew;generalize srt D.now=L at *
 go_enter Tryz.func84, Tryz.ntmps84
 go_wp2_with (go_at_call 22;refine HL.out.mono ?_;rintro e1 w1 ⟨v1,rfl,hown,hb1⟩;obtain⟨A1,c1,rfl,-,-⟩:=own_slice hown;have HR1:=Lib.hid (Rd.of_own hown);have HB1:=Lib.hid hb1;clear hown hb1)
 obtain⟨m,hm⟩:∃m,L.length=m:=⟨_,rfl⟩
 rw[hm] at HR1 HZ ⊢;go_loopw [6,13] (fun s6 s13 wr=>s6=.int .i64 0/\ ∃k:Nat,s13=.int .i64 (k:Int)/\k<=m/\Hid (Below w1.heap.size w1 wr)) (fun _ v _=>m-(intOf v).toNat)
 case atStart=>exact⟨by go_num,0,by go_num,by omega,Lib.hid (Below.refl _ _)⟩
 case round =>
  obtain⟨rfl,k,rfl,hk,HX⟩:=hrel;have HBX:=Lib.hid (HB1.out.trans (HX.out.mono HB1.out.size));by_cases hkm:k<m
  ·obtain⟨ad,u,rfl,hbk,hx,hc⟩:=(HR1.out.below HX.out).at1 hkm
   obtain⟨s,hs,rfl⟩:∃s,L[k]? =some s/\Value.string s=u:=by
    rw[List.getElem?_map] at hx;rcases hf:L[k]? with _|s
    ·rw[hf] at hx;cases hx
    ·rw[hf] at hx
     exact⟨s,rfl,by simpa using hx⟩
   have HCS:=Lib.hid (show Calls Tryz.prog 131 #[.slice A n c,.string s] wr fun e w'=>e=.returned (.bool true)/\Below wr.heap.size wr w' from by
    have:=HC.out s wr HBX.out
    rwa [HIN.out s (List.mem_of_getElem? hs)] at this)
   have i1:(0:Int)<=(k:Int):=by omega
   have i2:(k:Int)<(m:Int):=by omega
   have i3:IntKind.i64.wrap ((k:Int)+1)=((k+1:Nat):Int):=by rw[IntKind.wrap_i64];have:=HZ.out;omega
   clear hx hs hbk;go_wp2_with (go_at_call 131;refine HCS.out.mono ?_;rintro e2 w2 ⟨rfl,hb2⟩;have HB2:=Lib.hid (HX.out.trans (hb2.mono HX.out.size));clear hb2 hc)
   go_roundw
   ·exact⟨rfl,k+1,by first|rfl|rw[i3],by omega,HB2.out⟩
   ·first|(rw[i3];simp[intOf];omega)|(simp[intOf];omega)
  ·obtain rfl:k=m:=by omega
   go_wp2_with fail
   go_ret2
   exact⟨rfl,HBX.out⟩
end
end Tn
end Go.Proofs.YtphfmgapiimliaaGreat
namespace Go.Proofs.YtphfmgapiimliaaGreat
namespace Tn
open Go.RowKit Hd Rd Fm Sn Nf Dk Gp Sv
open Go.Proofs.YtphfmgapiimliaaGreat.Op Go.Proofs.YtphfmgapiimliaaGreat.Rf
theorem strEl:El 9 56 (.string ⟨#[]⟩) 1 16:=⟨by kernel_rfl,Tryz.underlying56,rfl,by decide,by decide⟩
theorem two_sorted:([maniN.data.toList,Nm.seg 1 1].mergeSort (fun x y=>decide (x<=y)))=[maniN.data.toList,Nm.seg 1 1] :=
 List.mergeSort_of_pairwise (by
  refine List.Pairwise.cons ?_ (List.pairwise_singleton _ _);intro y hy;obtain rfl:=List.mem_singleton.1 hy
  decide)
theorem below_grow {w:World} (n:Nat) (os:Array Obj):Below w.heap.size w (Go.Sort.grow (Go.Sort.ahead w n) os) :=
 ⟨rfl,rfl,rfl,by rw[Go.Sort.size_grow];exact Nat.le_add_right _ _,fun k hk=>Array.getElem?_append_left hk⟩
theorem sort_two (w:World) (B g c:Nat) (h:w.ownsRow B 9 1 (.slice (some ⟨g,0,none⟩) 2 c) 2 [.string maniN,.string (segN 1 1)]) :
  Calls Tryz.prog 133 #[.slice (some ⟨g,0,none⟩) 2 c] w fun e w'=>e=.returned (.tuple #[])/\Below w.heap.size w w':=by
 have hH:Go.Sort.Holds encStr w g 0 [maniN.data.toList,Nm.seg 1 1].toArray:=by
  intro j hj;have hj2:j<2:=hj;have h1:=h.cellAt j (by omega);have h2:=h.frozenAt j;rw[Nat.zero_add];refine⟨h1.trans ?_,h2⟩;have:j=0∨j=1:=by omega
  rcases this with rfl|rfl<;>rfl
 refine(Go.Proofs.AnyM.slices_Sort_string Tryz.sort133 g 0 c [maniN.data.toList,Nm.seg 1 1] w hH (World.ownsRow.lt h g rfl).2 (by decide)).mono ?_;rintro e w' ⟨rfl,n,os,rfl⟩;rw[two_sorted,Go.Sort.putRow_self _ _ _ _ _ (Go.Sort.holds_ahead _ _ n _ _ _ hH)];exact⟨rfl,below_grow n os⟩
theorem own_some2 {w:World} {B n c K:Nat} {t:TypeId} {A:Option Addr} {l:List Value} (h:w.ownsRow B t K (.slice A (1+n) c) (1+n) l):∃g,A=some ⟨g,0,none⟩:=by
 rcases h.2 with ⟨-,hn⟩|⟨g,cap,cur,hv,-⟩
 ·omega
 ·simp only[Value.slice.injEq] at hv
  exact⟨g,hv.1⟩
theorem seg_ok:Nm.segV 1 1=.tuple #[.string (segN 1 1),.int .i64 0]:=if_pos ⟨by decide,by decide⟩
set_option maxHeartbeats 6400000 in
set_option maxRecDepth 100000 in
theorem names1 (G cG:Nat) (w:World) (hrd:Rd w w.heap.size 9 (some ⟨G,0,none⟩) 1 (flS [e1])) :
  Calls Tryz.prog 85 #[.agg #[.int .i64 1,.int .i64 2,.int .i64 0,.int .i64 1,.slice (some ⟨G,0,none⟩) 1 cG]] w fun e w'=>(∃g c,e=.returned (.slice (some ⟨g,0,none⟩) 2 c)/\Rd w' w'.heap.size 1 (some ⟨g,0,none⟩) 2 (txv [maniN,segN 1 1]))/\Below w.heap.size w w':=by
 have mixed:Tryz.prog.follows .mixedOrders=true:=by kernel_rfl
 have HM:=Lib.hid (fun w=>manifest_any (w:=w));have HSG:=fun wx=>Nm.segment_any 1 1 wx
 rw[seg_ok] at HSG;replace HSG:=Lib.hid HSG;have HST:=Lib.hid (fun(wx:World) (B g c:Nat) (h:wx.ownsRow B 9 1 (.slice (some ⟨g,0,none⟩) 2 c) 2 [.string maniN,.string (segN 1 1)])=>sort_two wx B g c h);have HR:=Lib.hid (fun(wx:World) (hx:Below w.heap.size w wx) (k:Nat) (u:Value) (hu:(flS [e1])[k]? =some u)=>rd_cell1 (hrd.below hx) k hu);have HBM:=Lib.hid (Blk.new w #[.int .i64 1,.int .i64 2,.int .i64 0,.int .i64 1,.slice (some ⟨G,0,none⟩) 1 cG] 26);have HB:=Lib.hid (ext_alloc w (.cells #[.int .i64 1,.int .i64 2,.int .i64 0,.int .i64 1,.slice (some ⟨G,0,none⟩) 1 cG] 26));have HTX:=Lib.hid (show txv [maniN,segN 1 1]=[.string maniN,.string (segN 1 1)] from rfl);clear hrd;generalize segN 1 1=s at *
 generalize maniN=mn at *
 go_enter Tryz.func85, Tryz.ntmps85
 go_upto_region 1 with fail
 generalize w.alloc (.cells #[.int .i64 1,.int .i64 2,.int .i64 0,.int .i64 1,.slice (some ⟨G,0,none⟩) 1 cG] 26)=w0 at *
 go_upto_region 2 with (go_at_call 114;refine(HM.out _).mono ?_;rintro e1 w1 ⟨rfl,rfl⟩)
 have hb1:=ext_alloc w0 (.cells #[.string mn] 9);have HB1:=Lib.hid (HB.out.trans (hb1.mono HB.out.size));have HO1:=Lib.hid (show(w0.alloc (.cells #[.string mn] 9)).ownsRow w.heap.size 9 1 (.slice (some ⟨w0.heap.size,0,none⟩) 1 1) 1 [.string mn] from World.ownsRow_lit w0 #[.string mn] 1 HB.out.size (by simp[maxLen]) (by simp));have HM1:=Lib.hid (HBM.out.ext hb1);clear hb1 HB HBM;generalize w0.alloc (.cells #[.string mn] 9)=w1 at *
 generalize w0.heap.size=g1 at *
 have m4:=HM1.out.cell 4 (v:=.slice (some ⟨G,0,none⟩) 1 cG) rfl;go_wp2_with fail
 clear m4;go_loopw [3,13] (fun s3 s13 wr=>(s3=.slice (some ⟨g1,0,none⟩) 1 1/\s13=.int .i64 0/\wr=w1)∨(s13=.int .i64 1/\ ∃g c,s3=.slice (some ⟨g,0,none⟩) 2 c/\Hid (wr.ownsRow w.heap.size 9 1 (.slice (some ⟨g,0,none⟩) 2 c) 2 [.string mn,.string s]/\Below w.heap.size w wr))) (fun _ v _=>1-(intOf v).toNat)
 case atStart=>exact .inl ⟨rfl,by go_num,rfl⟩
 case round =>
  rcases hrel with ⟨rfl,rfl,rfl⟩|⟨rfl,g,c,rfl,HX⟩
  ·have c0:=HR.out wr HB1.out 0 (.int .i64 1) rfl
   have c1:=HR.out wr HB1.out 1 (.int .i64 1) rfl;have c2:=HR.out wr HB1.out 2 (.int .i64 1) rfl;have c3:=HR.out wr HB1.out 3 (.bool false) rfl;have c4:=HR.out wr HB1.out 4 (.int .i64 0) rfl;have c5:=HR.out wr HB1.out 5 (.int .i64 0) rfl;have c6:=HR.out wr HB1.out 6 (.int .i64 0) rfl;have c7:=HR.out wr HB1.out 7 (.int .i64 0) rfl;have c8:=HR.out wr HB1.out 8 (.int .i64 0) rfl;go_upto_region 5 with fail
   have hb2:=ext_alloc wr (.cells #[.int .i64 1,.int .i64 1,.int .i64 1,.bool false,.int .i64 0,.int .i64 0,.int .i64 0,.int .i64 0,.int .i64 0] 48);have HB2:=Lib.hid (HB1.out.trans (hb2.mono HB1.out.size));have HO2:=Lib.hid (own_block HO1.out fun g hg=>hb2.block g (World.ownsRow.lt HO1.out g hg).2);have HX2:=Lib.hid (Blk.new wr #[.int .i64 1,.int .i64 1,.int .i64 1,.bool false,.int .i64 0,.int .i64 0,.int .i64 0,.int .i64 0,.int .i64 0] 48);clear c0 c1 c2 c3 c4 c5 c6 c7 c8 hb2;generalize wr.alloc (.cells #[.int .i64 1,.int .i64 1,.int .i64 1,.bool false,.int .i64 0,.int .i64 0,.int .i64 0,.int .i64 0,.int .i64 0] 48)=w2 at *
   generalize wr.heap.size=bx at *
   have x0:=HX2.out.cell 0 (v:=.int .i64 1) rfl;have x1:=HX2.out.cell 1 (v:=.int .i64 1) rfl;go_wp2_with (first
    |(go_at_call 132;refine(HSG.out _).mono ?_;rintro e3 w3 ⟨rfl,hb3⟩;have HB3:=Lib.hid (HB2.out.trans (hb3.mono HB2.out.size));have HO3:=Lib.hid ((own_block HO2.out fun g hg=>hb3.block g (World.ownsRow.lt HO2.out g hg).2).alloc (.cells #[.string s] 9));clear hb3 x0 x1)
    |(at_builtin;(refine wpList_appV strEl HO3.out (rdV_new 9 w3 [.string s] rfl) (by intro h;cases h) (by intro u hu;obtain rfl:=List.mem_singleton.1 hu;rfl) (by omega) (by omega) (Nat.le_trans HB3.out.size (by simp)) ?_);intro v5 w5 hown5 hb5 hg5;obtain⟨A5,c5,rfl,-,-⟩:=own_slice hown5;obtain⟨g5,rfl⟩:∃g5,A5=some ⟨g5,0,none⟩:=own_some2 hown5;have HO5:=Lib.hid hown5;have HB5:=Lib.hid ((HB3.out.trans ((ext_alloc w3 (.cells #[.string s] 9)).mono HB3.out.size)).trans hb5);clear hown5 hb5 hg5))
   go_roundw
   ·exact .inr ⟨by go_num,g5,c5,rfl,Lib.hid ⟨HO5.out,HB5.out⟩⟩
   ·simp[intOf]
  ·go_wp2_with (go_at_call 133;refine(HST.out _ _ _ _ HX.out.1).mono ?_;rintro e6 w6 ⟨rfl,hb6⟩;have HB6:=Lib.hid hb6;clear hb6)
   go_ret
   rw[HTX.out];exact⟨⟨g,c,rfl,((Rd.of_own HX.out.1).below HB6.out).more HB6.out.size⟩,HX.out.2.trans (HB6.out.mono HX.out.2.size)⟩
end Tn
end Go.Proofs.YtphfmgapiimliaaGreat
