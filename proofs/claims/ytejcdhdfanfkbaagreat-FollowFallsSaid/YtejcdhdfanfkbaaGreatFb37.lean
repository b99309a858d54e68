/- follow.Save on a disk without an elder file. A range over an iterator that turns a variable of its own; the body never leaves the loop. -/
import Derived.Test.YtejcdhdfanfkbaaGreatFb14
import Derived.Test.YtejcdhdfanfkbaaGreatFb36
import Derived.Test.YtejcdhdfanfkbaaGreatRows
import Derived.RangeFuncNested
import Derived.RangeFuncBound
import Derived.RangeFuncCalls
import Derived.RangeFuncLeaves
import Derived.Shelf.Abstract
import Derived.Shelf.RegionOpen
import Derived.WalkKit
import Derived.OwnWalkIn
import Derived.TacticsInMore
import Derived.LoopNIn
import Derived.LoopIn
namespace Go.Proofs.YtejcdhdfanfkbaaGreat
namespace Fo
open Go.RowKit Hd Rd Fm Sn Dk
open Go.Proofs.YtejcdhdfanfkbaaGreat.Op
def keptN:ByteArray:=⟨#[102,111,108,108,111,119]⟩
def tmpN:ByteArray:=⟨#[102,111,108,108,111,119,46,110,101,119]⟩
theorem tmp_kept:tmpN≠keptN:=by decide
def d4 (T:ByteArray) (b:Nat) (D:DS):DS:=chgD (keptN,tmpN,some b) (tick (d3 tmpN T b D))
def fsaveD (T:ByteArray) (b:Nat) (D:DS):DS:=settleD (tick (d4 T b D))
section
variable {w w':World} {S:Nat->Prop} {bd:Nat} {D:DS}
theorem fapp_go (h:DiskAt w S bd D) {cd ct b:Nat} {s text:ByteArray} {p:ByteArray×ByteArray} (hd:Blk w cd #[.pointer (some ⟨bd,0,none⟩)] 57) (ht:Blk w ct #[.string text] 9)
  (ho:D.off=false) (hl:lk s D.now=some b) (hp:D.fl b=some p) (h1:p.2.size+text.size<=1000000) (h2:(text.size:Int)+(usedD D:Int)<=D.cap) :
  Calls Tryz.prog 54 #[.string s,.pointer (some ⟨cd,0,none⟩),.pointer (some ⟨ct,0,none⟩)] w fun e w'=>e=.returned (.int .i64 (opE D))/\ ∃S',DiskAt w' S' bd (opS false (setF b (p.1,p.2++text)) D)/\Gr S w S' w':=by
 have HA:=Lib.hid (append_go h ho hl hp h1 h2);have k0:=hd.cell 0 (v:=.pointer (some ⟨bd,0,none⟩)) rfl;have k1:=ht.cell 0 (v:=.string text) rfl;clear h hd ht ho hl hp h1 h2
 go_enter Tryz.func54, Tryz.ntmps54
 go_wp2_with (go_at_call 55;refine HA.out.mono ?_;rintro e5 w5 ⟨rfl,S5,hD5,hG5⟩;have HD5:=Lib.hid (And.intro hD5 hG5);clear hD5 hG5)
 go_ret
 exact⟨rfl,S5,HD5.out⟩
theorem fren_go (h:DiskAt w S bd D) {cd b:Nat} (hd:Blk w cd #[.pointer (some ⟨bd,0,none⟩)] 57) (ho:D.off=false) (hl:lk tmpN D.now=some b) (hc:D.chg.length<=1000000) :
  Calls Tryz.prog 56 #[.string tmpN,.pointer (some ⟨cd,0,none⟩)] w fun e w'=>e=.returned (.int .i64 (opE D))/\ ∃S',DiskAt w' S' bd (opS false (chgD (keptN,tmpN,some b)) D)/\Gr S w S' w':=by
 have HA:=Lib.hid (rename_go h (t:=keptN) ho (by decide) hl (by decide) tmp_kept hc);have k0:=hd.cell 0 (v:=.pointer (some ⟨bd,0,none⟩)) rfl;clear h hd ho hl hc;unfold keptN at *
 go_enter Tryz.func56, Tryz.ntmps56
 go_wp2_with (go_at_call 57;refine HA.out.mono ?_;rintro e5 w5 ⟨rfl,S5,hD5,hG5⟩;have HD5:=Lib.hid (And.intro hD5 hG5);clear hD5 hG5)
 go_ret
 exact⟨rfl,S5,HD5.out⟩
def fsF (bd cd ct:Nat):List (FuncId×Array Value×Array Value):=[(58,#[.pointer (some ⟨bd,0,none⟩)],#[]),(54,#[],#[.pointer (some ⟨cd,0,none⟩),.pointer (some ⟨ct,0,none⟩)]),(59,#[.pointer (some ⟨bd,0,none⟩)],#[]),(56,#[],#[.pointer (some ⟨cd,0,none⟩)])]
theorem fsF_enters (bd cd ct:Nat):∀f∈fsF bd cd ct,∀args w,(callFunc f.1 args).run Tryz.prog w=.ok (.enter f.1 args) w:=by
 intro f' hf';simp only[fsF,List.mem_cons,List.not_mem_nil,or_false] at hf';rcases hf' with rfl|rfl|rfl|rfl
 ·exact enters_of Tryz.func58 (by kernel_rfl) rfl
 ·exact enters_of Tryz.func54 (by kernel_rfl) rfl
 ·exact enters_of Tryz.func59 (by kernel_rfl) rfl
 ·exact enters_of Tryz.func56 (by kernel_rfl) rfl
def FJ (w3:World) (S:Nat->Prop) (bd:Nat) (T:ByteArray) (D:DS) (k:Nat) (wx:World):Prop :=
 ∃S' D',Gr S w3 S' wx/\DiskAt wx S' bd D'/\match k with
  |0=>D'=D
  |1=>∃b,D.fl b=none/\D'=d1 tmpN b D
  |2=>∃b,D.fl b=none/\D'=d2 tmpN T b D
  |3=>∃b,D.fl b=none/\D'=d3 tmpN T b D
  |_=>∃b,D.fl b=none/\D'=d4 T b D
theorem fj_step (h:DiskAt w S bd D) (hc:Dk.Calm D) {text:ByteArray} {cd ct:Nat} (hd:Blk w cd #[.pointer (some ⟨bd,0,none⟩)] 57) (ht:Blk w ct #[.string text] 9) (nd: ¬ S cd) (nt: ¬ S ct)
  (hl:lk tmpN D.now=none) (hn:D.now.length<200) (hch:D.chg.length<1000000) (hb:text.size<=1000000) (h2:(text.size:Int)+(usedD D:Int)<=D.cap) :
  ∀k f,(fsF bd cd ct)[k]? =some f-> ∀wx,FJ w S bd text D k wx->Calls Tryz.prog f.1 (f.2.1++ #[.string tmpN]++f.2.2) wx fun e w'=>e=.returned (.int .i64 0)/\FJ w S bd text D (k+1) w':=by
 have hfit:=h.fit;have hnk:Nm.check tmpN.data.toList=0:=by decide
 intro k f' hf' wx hJ;obtain⟨S',D',g1,hD,hR⟩:=hJ;rcases k with _|_|_|_|k
 ·simp only[fsF,List.getElem?_cons_zero,Option.some.injEq] at hf'
  subst hf';obtain rfl:D'=D:=hR;refine(create_go hD hc.off hnk hl hn (by omega)).mono ?_;rintro e w2 ⟨rfl,b,S2,hbn,hD2,g2⟩;refine⟨by rw[hc.e],S2,_,g1.trans g2,hD2,b,hbn,?_⟩;rw[opS_calm (hc.setF b _)];rfl
 ·simp only[fsF,List.getElem?_cons_succ,List.getElem?_cons_zero,Option.some.injEq] at hf'
  subst hf';obtain⟨b,hbn,rfl⟩:∃b,D.fl b=none/\D'=d1 tmpN b D:=hR;have c1:Dk.Calm (d1 tmpN b D):=((hc.setF b _).tick).chg _;refine(fapp_go hD (g1.blk hd nd) (g1.blk ht nt) (b:=b) (p:=(⟨#[]⟩,⟨#[]⟩)) c1.off (by rw[d1_now hl,<-pt_new tmpN b _ hl];exact lk_pt tmpN b _) (by show(if b=b then _ else _)=_;rw[if_pos rfl]) (by show 0+_<=_;omega) (by rw[d1_used hl hfit hbn];exact h2)).mono ?_;rintro e w2 ⟨rfl,S2,hD2,g2⟩;refine⟨by rw[c1.e],S2,_,g1.trans g2,hD2,b,hbn,?_⟩;rw[opS_calm c1];rfl
 ·simp only[fsF,List.getElem?_cons_succ,List.getElem?_cons_zero,Option.some.injEq] at hf'
  subst hf';obtain⟨b,hbn,rfl⟩:∃b,D.fl b=none/\D'=d2 tmpN text b D:=hR;have c1:Dk.Calm (d2 tmpN text b D):=(((hc.setF b _).tick).chg _).tick.setF b _;refine(sync_go hD (b:=b) (p:=(⟨#[]⟩,⟨#[]⟩++text)) c1.off (by show lk tmpN (d1 tmpN b D).now=_;rw[d1_now hl,<-pt_new tmpN b _ hl];exact lk_pt tmpN b _) (by show(if b=b then _ else _)=_;rw[if_pos rfl])).mono ?_;rintro e w2 ⟨rfl,S2,hD2,g2⟩;refine⟨by rw[c1.e],S2,_,g1.trans g2,hD2,b,hbn,?_⟩;rw[opS_calm c1];rfl
 ·simp only[fsF,List.getElem?_cons_succ,List.getElem?_cons_zero,Option.some.injEq] at hf'
  subst hf';obtain⟨b,hbn,rfl⟩:∃b,D.fl b=none/\D'=d3 tmpN text b D:=hR;have c1:Dk.Calm (d3 tmpN text b D):=((((hc.setF b _).tick).chg _).tick.setF b _).tick.setF b _;refine(fren_go hD (g1.blk hd nd) (b:=b) c1.off (by show lk tmpN (d1 tmpN b D).now=_;rw[d1_now hl,<-pt_new tmpN b _ hl];exact lk_pt tmpN b _) (by show(D.chg++[_]).length<=_;rw[List.length_append];simp only[List.length_cons,List.length_nil];omega)).mono ?_;rintro e w2 ⟨rfl,S2,hD2,g2⟩;refine⟨by rw[c1.e],S2,_,g1.trans g2,hD2,b,hbn,?_⟩;rw[opS_calm c1];rfl
 ·simp[fsF] at hf'
set_option maxHeartbeats 6400000 in
set_option maxRecDepth 100000 in
theorem fsave_go (h:DiskAt w S bd D) (hc:Dk.Calm D) {A:Option Addr} {n c:Nat} {l:List Pl} (hrd:Rd w w.heap.size 2 A n (flS l)) (hsn:n<=1000000) (hok:chkP l=0) (hk:∀x∈D.now,x.1.size<=maxLen) (hl:lk tmpN D.now=none) (hn:D.now.length<200) (hch:D.chg.length<1000000) (h2:((pL l).length:Int)+9+(usedD D:Int)<=D.cap) (hz:(pL l).length<=10000) :
  Calls Tryz.prog 22 #[.pointer (some ⟨bd,0,none⟩),.slice A n c] w fun e w'=>e=.returned (.int .i64 0)/\ ∃b S',D.fl b=none/\DiskAt w' S' bd (fsaveD (frB 4 ⟨(pL l).toArray⟩) b D)/\Gr S w S' w':=by
 have mixed:Tryz.prog.follows .mixedOrders=true:=by kernel_rfl
 have hsz:(⟨(pL l).toArray⟩:ByteArray).size=(pL l).length:=by show(pL l).toArray.size=_;rw[List.size_toArray]
 have HE:=Lib.hid (fun(wx:World) (hb:Below w.heap.size w wx)=>show Calls Tryz.prog 8 #[.slice A n c] wx fun e w'=>e=.returned (.tuple #[.string ⟨(pL l).toArray⟩,.int .i64 0])/\Below wx.heap.size wx w' from by
  have:=fenc_any A n c l wx ((hrd.below hb).more hb.size) hsn
  rwa [show encE l=.returned (.tuple #[.string ⟨(pL l).toArray⟩,.int .i64 0]) from by unfold encE;rw[hok,if_pos rfl]] at this)
 have HP:=Lib.hid (fun wx=>fput_4 ⟨(pL l).toArray⟩ wx (by rw[hsz];omega));have hfz:(frB 4 ⟨(pL l).toArray⟩).size=(pL l).length+9:=by rw[Op.frB_size,hsz]
 have hnot:inT tmpN (srt D.now)=false:=inT_no (by
  rw[srt_mem];rintro ⟨y,hy,e⟩;exact lk_none.1 hl y hy e)
 have HL:=Lib.hid (fun(wx:World) (hb:Below w.heap.size w wx)=>list_any (h.ext hb) hc.off hk);have hsl:(srt D.now).length<=1000000:=by
  rw[srt_len];have:D.now.length<=200:=h.fit.now_few;omega
 have HC:=Lib.hid (show ∀(A:Option Addr) (n c:Nat) (wx:World),Rd wx wx.heap.size 1 A n (txv (srt D.now))->n<=1000000->Calls Tryz.prog 51 #[.slice A n c,.string tmpN] wx fun e w'=>e=.returned (.bool false)/\Below wx.heap.size wx w' from fun A n c wx hr hn=>by
  have:=contains_any A n c (srt D.now) tmpN wx hr hn
  rwa [hnot] at this)
 have HST:=Lib.hid (fun(w3:World) (cd ct:Nat) (hb:Below w.heap.size w w3) (hd:Blk w3 cd #[.pointer (some ⟨bd,0,none⟩)] 57) (ht:Blk w3 ct #[.string (frB 4 ⟨(pL l).toArray⟩)] 9) (nd: ¬ S cd) (nt: ¬ S ct)=>fj_step (h.ext hb) hc hd ht nd nt hl hn hch (by rw[hfz];omega) (by rw[hfz];push_cast;exact h2));have HDS:=Lib.hid (show ∀(wx:World) (S':Nat->Prop) (b:Nat),DiskAt wx S' bd (d4 (frB 4 ⟨(pL l).toArray⟩) b D)->Gr S w S' wx->Calls Tryz.prog 60 #[.pointer (some ⟨bd,0,none⟩)] wx fun e w'=>e=.returned (.int .i64 0)/\ ∃S2,DiskAt w' S2 bd (fsaveD (frB 4 ⟨(pL l).toArray⟩) b D)/\Gr S w S2 w' from fun wx S' b hD hG=>by
  have c1:Dk.Calm (d4 (frB 4 ⟨(pL l).toArray⟩) b D):=(((((hc.setF b _).tick).chg _).tick.setF b _).tick.setF b _).tick.chg _;refine(dirsync_go hD c1.off).mono ?_;rintro e w' ⟨rfl,S2,q1,q2⟩;refine⟨by rw[c1.e],S2,?_,hG.trans q2⟩
  rwa [opS_calm c1] at q1)
 have HS0:=Lib.hid (show ∀k,w.heap.size<=k-> ¬ S k from fun k hk=>by
  obtain⟨gN,gS,v,h⟩:=h;exact h.gt hk)
 have HD0:=Lib.hid h;have HB:=Lib.hid (ext_alloc w (.cells #[.pointer (some ⟨bd,0,none⟩)] 57));have HBX:=Lib.hid (Blk.new w #[.pointer (some ⟨bd,0,none⟩)] 57);have HLT:=Lib.hid (show w.heap.size<(w.alloc (.cells #[.pointer (some ⟨bd,0,none⟩)] 57)).heap.size from by simp);clear h hc hrd hok hk hl hn hch h2 hz hfz hsz hnot;generalize (⟨(pL l).toArray⟩:ByteArray)=Bo at *
 generalize frB 4 Bo=T at *
 generalize srt D.now=L at *
 go_enter Tryz.func22, Tryz.ntmps22
 unfold tmpN at HC;go_wp2_with (first
  |(go_at_call 8;refine(HE.out _ HB.out).mono ?_;rintro e1 w1 ⟨rfl,hb1⟩;have HB1:=Lib.hid (HB.out.trans (hb1.mono HB.out.size));have HX1:=Lib.hid (HBX.out.below hb1 HLT.out);have k0:=HX1.out.cell 0 (v:=.pointer (some ⟨bd,0,none⟩)) rfl;clear hb1)
  |(go_at_call 50;refine(HP.out _).mono ?_;rintro e2 w2 ⟨rfl,hb2⟩;have HB2:=Lib.hid (HB1.out.trans (hb2.mono HB1.out.size));have HX2:=Lib.hid (HX1.out.ext hb2);have HX3:=Lib.hid (HX2.out.alloc (.cells #[.string T] 9));have HT3:=Lib.hid (Blk.new w2 #[.string T] 9);have HB3:=Lib.hid (HB2.out.trans ((ext_alloc w2 (.cells #[.string T] 9)).mono HB2.out.size));have HNT:=Lib.hid (HS0.out w2.heap.size HB2.out.size);have k3:=HX3.out.cell 0 (v:=.pointer (some ⟨bd,0,none⟩)) rfl;clear hb2 k0)
  |(go_at_call 52;refine(HL.out _ HB3.out).mono ?_;rintro e4 w4 ⟨v4,rfl,hown,hb4⟩;obtain⟨A4,c4,rfl,-,-⟩:=own_slice hown;have HR4:=Lib.hid (Rd.of_own hown);have HX4:=Lib.hid (HX3.out.ext hb4);have HT4:=Lib.hid (HT3.out.ext hb4);have HB4:=Lib.hid (HB3.out.trans (hb4.mono HB3.out.size));clear hown hb4 k3)
  |(go_at_call 51;refine(HC.out _ _ _ _ HR4.out hsl).mono ?_;rintro e5 w5 ⟨rfl,hb5⟩;have HX5:=Lib.hid (HX4.out.ext hb5);have HT5:=Lib.hid (HT4.out.ext hb5);have HB5:=Lib.hid (HB4.out.trans (hb5.mono HB4.out.size));have k5:=HX5.out.cell 0 (v:=.pointer (some ⟨bd,0,none⟩)) rfl;clear hb5))
 obtain⟨cd,hcd⟩:∃cd,w.heap.size=cd:=⟨_,rfl⟩
 obtain⟨ct,hct⟩:∃ct,w2.heap.size=ct:=⟨_,rfl⟩
 have hW:w5.alloc (.cells #[.func (.func 58) #[.pointer (some ⟨bd,0,none⟩)] #[],.func (.func 54) #[] #[.pointer (some ⟨cd,0,none⟩),.pointer (some ⟨ct,0,none⟩)],.func (.func 59) #[.pointer (some ⟨bd,0,none⟩)] #[],.func (.func 56) #[] #[.pointer (some ⟨cd,0,none⟩)]] 110)=w5.alloc (.cells ((fsF bd cd ct).map fv).toArray 110):=rfl;have hsz5:w.heap.size<=w5.heap.size:=HB5.out.size;have hB6:Below w.heap.size w (w5.alloc (.cells ((fsF bd cd ct).map fv).toArray 110)):=HB5.out.trans ((ext_alloc w5 _).mono hsz5);have hX6:=HX5.out.alloc (.cells ((fsF bd cd ct).map fv).toArray 110);have hT6:=HT5.out.alloc (.cells ((fsF bd cd ct).map fv).toArray 110);have hF6:=Blk.new w5 ((fsF bd cd ct).map fv).toArray 110;have hnf:=HS0.out w5.heap.size hsz5;have hnd:=HS0.out w.heap.size (Nat.le_refl _);have hnt:=HNT.out;rw[hcd] at hX6 hnd;rw[hct] at hT6 hnt;have HST2:=Lib.hid (HST.out _ cd ct hB6 hX6 hT6 hnd hnt);have HJ0:Hid (FJ (w5.alloc (.cells ((fsF bd cd ct).map fv).toArray 110)) S bd T D 0 (w5.alloc (.cells ((fsF bd cd ct).map fv).toArray 110))):=Lib.hid ⟨S,D,Gr.refl _ _,HD0.out.ext hB6,rfl⟩;rw[hcd,hct,hW];generalize hcf:w5.heap.size=cf at *
 generalize w5.alloc (.cells ((fsF bd cd ct).map fv).toArray 110)=w6 at *
 have HB6:=Lib.hid hB6;have HRD:=Lib.hid (show ∀k wx,FJ w6 S bd T D k wx->Rd wx wx.heap.size 1 (some ⟨cf,0,none⟩) 4 ((fsF bd cd ct).map fv) from by
  rintro k wx ⟨S',D',g1,-⟩;have:=rd_blk (g1.blk hF6 hnf);simpa[fsF] using this)
 have HXJ:=Lib.hid (show ∀k wx,FJ w6 S bd T D k wx->Blk wx cd #[.pointer (some ⟨bd,0,none⟩)] 57 from by
  rintro k wx ⟨S',D',g1,-⟩;exact g1.blk hX6 hnd)
 have HEN:=Lib.hid (fsF_enters bd cd ct);clear hB6 hX6 hT6 hF6 hnf hnd hnt hsz5 hcd hct hW hcf k5;clear HST HE HP HL HC HB HBX HLT HB1 HB2 HB3 HB4 HB5 HX1 HX2 HX3 HX4 HX5 HT3 HT4 HT5 HNT HS0 HD0 HR4;generalize hfs:fsF bd cd ct=fs at *
 have HFS:=Lib.hid hfs;clear hfs;go_loopw [48] (fun v wr=>∃k:Nat,v=.int .i64 k/\k<=4/\Hid (FJ w6 S bd T D k wr)) (fun v _=>4-(intOf v).toNat)
 case atStart=>exact⟨0,by go_num,by omega,HJ0.out⟩
 case round =>
  clear HJ0;obtain⟨k,rfl,hk,HX⟩:=hrel;by_cases hkn:k<4
  ·obtain⟨ad,u,hA,hbk,hx,hc⟩:=(HRD.out k wr HX.out).at1 hkn
   obtain⟨f,hf,rfl⟩:∃f,fs[k]? =some f/\fv f=u:=by
    rw[List.getElem?_map] at hx;rcases hf:fs[k]? with _|f
    ·rw[hf] at hx;cases hx
    ·rw[hf] at hx
     exact⟨f,rfl,by simpa using hx⟩
   have hen2:=HEN.out f (List.mem_of_getElem? hf);have HC:=Lib.hid (HST2.out k f hf wr HX.out);obtain⟨fid,first,caps⟩:=f;unfold fv at hc;dsimp only at hc hen2 HC;cases hA
   rw[Addr.add_lit,Nat.zero_add] at hc;clear hx hf hbk;have hki:(k:Int)<4:=by omega
   unfold tmpN at HC;go_wp2_with (first
    |(go_at_fn fid;refine HC.out.mono ?_;rintro e1 w1 ⟨rfl,hJ⟩;have HJ:=Lib.hid hJ;clear hJ))
   go_roundw
   ·exact⟨k+1,by go_num,by omega,HJ.out⟩
   ·simp[intOf];omega
  ·have e:k=4:=by omega
   subst e;have k7:=(HXJ.out 4 wr HX.out).cell 0 (v:=.pointer (some ⟨bd,0,none⟩)) rfl;obtain⟨S7,D7,g7,hD7,b,hbn,rfl⟩:=HX.out;have HD7:=Lib.hid hD7;have HG7:=Lib.hid (show Gr S w S7 wr from(Gr.of_below HB6.out).trans g7);have HBN:=Lib.hid hbn;clear hD7 g7 hbn HX;go_wp2_with (go_at_call 60;refine(HDS.out _ _ _ HD7.out HG7.out).mono ?_;rintro e8 w8 ⟨rfl,S8,hD8,hG8⟩;have HD8:=Lib.hid hD8;have HG8:=Lib.hid hG8;clear hD8 hG8)
   go_ret
   exact⟨rfl,b,S8,HBN.out,HD8.out,HG8.out⟩
end
end Fo
end Go.Proofs.YtejcdhdfanfkbaaGreat
namespace Go.Proofs.YtejcdhdfanfkbaaGreat
namespace Rg
open Go.RowKit Go.Shelf
variable {F:Fence} {n:Nat} {P:Program}
structure Ks (S:Nat->Prop) (W W':World):Prop where
 size:W.heap.size<=W'.heap.size
 same:∀k o,W.heap[k]? =some o->o.isCells=true->S k->W'.heap[k]? =some o
theorem Ks.trans {S:Nat->Prop} {A B C:World} (h:Ks S A B) (k:Ks S B C):Ks S A C:=⟨Nat.le_trans h.size k.size,fun i o hi ho hS=>k.same i o (h.same i o hi ho hS) ho hS⟩
theorem Ks.putObj {S:Nat->Prop} {W:World} {l:Nat} {o:Obj} (o':Obj) (h:W.heap[l]? =some o) (ho:o.isCells=false):Ks S W (W.putObj l o'):=by
 refine⟨(grownBy_putObj' W l o').size,fun k p hk hp _=>?_⟩;rw[World.putObj_heap_other (by rintro rfl;rw[h] at hk;cases hk;rw[ho] at hp;cases hp)];exact hk
def Gives {α:Type} (F:Fence) (n:Nat) (P:Program) (g:Nat) (lb:Array Value) (enc:α->Value) (R:Nat->Prop) (b:Nat) (xs:List α) (w:World):Prop :=
 ∀(l:Nat) (J:List α->(Nat->Prop)->World->Prop) (W:World),Below w.heap.size w W ->
  (∀pre S S' W1 W2,J pre S W1->W1.grownBy W2 (some b)->(∀k,S' k->S k∨W1.heap.size<=k/\k<W2.heap.size)->J pre S' W2) ->
  (∀pre x rest S W1,xs=pre++x::rest->J pre S W1->YieldAt F (n-1) P l #[enc x] W1 fun e W'=>e=.returned (.bool true)/\J (pre++[x]) S W'/\Ks S W1 W') ->
  J [] R W ->
  CallsIn F n P g (#[.func (.yield l) #[] #[]]++lb) W fun e W'=>(∃v,e=.returned v)/\ ∃S,J xs S W'
theorem wpIn_range_own {α:Type} {g:Operand} {p:Tmp} {assign body:Code} {Q:Exit->Act->World->Prop} {a:Act} {w:World}
  (hro:F.round=none) (h1:1<=n) {gf:Nat} {lb:Array Value} (hg:a.eval g=.func (.func gf) #[] lb) (hFg:F.fn gf) (eg:∀args w,(callFunc gf args).run P w=.ok (.enter gf args) w)
  {enc:α->Value} {R:Nat->Prop} {b:Nat} {xs:List α} (hb:b<w.heap.size) (hseq:Gives F (n-1) P gf lb enc R b xs w)
  (I:List α->(Nat->Prop)->World->Prop) (hI:∀pre S S' W W' row,I pre S W->W.grownBy W' row->(∀r,row=some r->r=b∨w.heap.size<=r/\ ∃o:Obj,W.heap[r]? =some o/\o.isCells=false) ->
   (∀k,S' k->S k∨W.heap.size<=k/\k<W'.heap.size)->I pre S' W')
  (h0:I [] R w) (Ax:List α->α->(Nat->Prop)->Act->World->Prop)
  (hAx:∀pre x S a' W W' row,Ax pre x S a' W->W.grownBy W' row->(∀r,row=some r->r=b∨w.heap.size<=r/\ ∃o:Obj,W.heap[r]? =some o/\o.isCells=false)->Ax pre x S a' W')
  (hassign:∀(l:Nat) (pre:List α) (x:α) (rest:List α) (S:Nat->Prop) (W:World),xs=pre++x::rest->I pre S W ->
   assign.wpIn (F.inRound l) (n-1-1) P (Exit.then (fun a' W'=>KeepsOthers W W'/\Ks S W W'/\Ax pre x S a' W') (fun _ _ _=>False)) { tmps:=(#[p].zip #[enc x]).foldl (fun t (p,v)=>t.setIfInBounds p v) a.tmps,defers:=[] } W)
  (hbody:∀(l:Nat) (pre:List α) (x:α) (rest:List α) (S:Nat->Prop) (a':Act) (W:World),xs=pre++x::rest->Ax pre x S a' W ->
   body.wpIn (F.inRound l) (n-1-1) P (fun e _ W'=>e=.normal/\KeepsOthers W W'/\Ks S W W'/\I (pre++[x]) S W') a' W)
  (hdone:∀(D:Nat) (S:Nat->Prop) (W:World),w.heap.size<=D->I xs S W->W.heap[D]? =some (.deferred (some []))->Q .normal { a with defers:={ target:=.collected D,args:=#[] }::a.defers } W) :
  (Code.rangeFunc g #[p] assign body).wpIn F n P Q a w:=by
 refine wpIn_rangeFunc ?_;intro fn hfn;rw[hro];obtain⟨rec,hrec⟩:∃rec:LoopState->Option Code->Loop,rec=fun st pe=>{ state:=st,pending:=pe,fn,tmps:=a.tmps,params:=#[p],assign,body,defers:=w.heap.size }:=⟨_,rfl⟩
 obtain⟨W1,hW1⟩:∃W1,(w.alloc (.deferred (some []))).alloc (.loop (rec .ready none))=W1:=⟨_,rfl⟩
 have hL1:W1.heap[w.heap.size+1]? =some (.loop (rec .ready none)):=by
  rw[<-hW1];have:=World.alloc_heap_new (w.alloc (.deferred (some []))) (.loop (rec .ready none));rwa [World.size_alloc] at this
 have hK1:W1.heap[w.heap.size]? =some (.deferred (some [])):=by
  rw[<-hW1];exact(Below.heap_alloc _ _ _ (by simp)).trans (World.alloc_heap_new w _)
 have hIa:∀pre S W o,I pre S W->I pre S (W.alloc o):=fun pre S W o h=>hI pre S S W _ none h (World.grownBy_alloc W o none) (fun r e=>by cases e) (fun _ h=>.inl h)
 have hIp:∀pre S W l (o o':Obj),I pre S W->w.heap.size<=l->W.heap[l]? =some o->o.isCells=false->I pre S (W.putObj l o'):=fun pre S W l o o' h hl ho hc =>
  hI pre S S W _ (some l) h (grownBy_putObj' W l o') (fun r e=>by cases e;exact .inr ⟨hl,o,ho,hc⟩) (fun _ h=>.inl h)
 have hI1:I [] R W1:=by rw[<-hW1];exact hIa _ _ _ _ (hIa _ _ _ _ h0)
 have hb1:Below w.heap.size w W1:=by
  rw[<-hW1];exact((Below.refl _ w).alloc (Nat.le_refl _) _).alloc (by simp) _
 refine⟨w.heap.size+1,[{ target:=.collected w.heap.size,args:=#[] }],W1,{ target:=.fn (.func gf) lb,args:=#[.func (.yield (w.heap.size+1)) #[] #[]] },W1,gf,
  #[.func (.yield (w.heap.size+1)) #[] #[]]++lb,W1,?_,?_,?_,?_,fun _=>h1,?_⟩
 ·rw[<-hW1,hrec];exact run_enterLoop_outer _ _ _ _ _
 ·simp only[resolve,hg]
  simp[go_sem]
 ·intro f' hf';simp[Target.leads] at hf';subst hf';exact hFg
 ·simp[invoke,go_sem,eg]
 ·have hst:∀{A B:World} {k:Nat} {o:Obj},A.grownBy B (some b)->w.heap.size<=k->A.heap[k]? =some o->B.heap[k]? =some o:=fun hgr hk ho =>
   (hgr.block _ (Array.getElem?_eq_some_iff.1 ho).1 (by intro e;cases e;omega)).trans ho
  refine(hseq (w.heap.size+1)
   (fun pre S W=>I pre S W/\W.heap[w.heap.size+1]? =some (.loop (rec .ready none))/\W.heap[w.heap.size]? =some (.deferred (some [])))
   W1 hb1 (fun pre S S' A B hs hgr hS=>⟨hI pre S S' A B _ hs.1 hgr (fun r e=>by cases e;exact .inl rfl) hS,hst hgr (by omega) hs.2.1,hst hgr (by omega) hs.2.2⟩) ?_ ⟨hI1,hL1,hK1⟩).mono ?_
  ·rintro pre x rest S W hxs ⟨hi,hl,hk⟩
   have hlt:w.heap.size+1<W.heap.size:=(Array.getElem?_eq_some_iff.1 hl).1;have hy:=run_yield (P:=P) (args:=#[enc x]) hl (by rw[hrec];rfl);rw[hrec] at hy;refine⟨fn,_,assign,body,hy,roundIn_of_wpIn hfn (wpIn_mono (hassign (w.heap.size+1) pre x rest S W hxs hi) ?_)⟩;rintro e a' W' hp;cases e with
   |normal =>
    obtain⟨hk0,hkc0,hax⟩:=hp;have hl0:=hk0.same _ _ hl rfl;have hk00:=hk0.same _ _ hk rfl;have hlt0:w.heap.size+1<W'.heap.size:=(Array.getElem?_eq_some_iff.1 hl0).1;refine⟨_,run_beginRound hl0 (by rw[hrec]),?_⟩;have hl2:(W'.putObj (w.heap.size+1) (.loop { rec .ready none with state:=.busy })).heap[w.heap.size+1]? =some (.loop { rec .ready none with state:=.busy }):=World.putObj_heap_same hlt0;have hk2:(W'.putObj (w.heap.size+1) (.loop { rec .ready none with state:=.busy })).heap[w.heap.size]? =some (.deferred (some [])):=(World.putObj_heap_other (by omega)).trans hk00;have hw2:Ks S W (W'.putObj (w.heap.size+1) (.loop { rec .ready none with state:=.busy })):=hkc0.trans (Ks.putObj _ hl0 rfl);refine wpIn_mono (hbody _ pre x rest S a' _ hxs (hAx _ _ _ _ _ _ (some (w.heap.size+1)) hax (grownBy_putObj' _ _ _) (fun r e=>by cases e;exact .inr ⟨by omega,_,hl0,rfl⟩))) ?_;rintro e a3 W3 ⟨rfl,hk3,hkp3,hi3⟩;have hl3:=hk3.same _ _ hl2 rfl;have hr:=run_endRound (P:=P) none hl3;rw[hrec] at hr hl3;refine⟨_,_,hr,rfl,⟨hIp _ _ _ _ _ _ hi3 (by omega) hl3 rfl,?_,(World.putObj_heap_other (by omega)).trans (hk3.same _ _ hk2 rfl)⟩,(hw2.trans hkp3).trans (Ks.putObj _ hl3 rfl)⟩;rw[hrec];exact World.putObj_heap_same (Array.getElem?_eq_some_iff.1 hl3).1
   |ret=>exact hp.elim
   |exit id=>exact hp.elim
   |goto t=>exact hp.elim
   |panic ch=>exact hp.elim
   |outgrown=>exact hp.elim
  ·rintro e W2 ⟨⟨v,rfl⟩,S,hi,hl,hk⟩
   exact⟨none,_,by have:=run_endLoop (P:=P) hl (by rw[hrec];simp);rw[hrec] at this;exact this,hdone _ S _ (Nat.le_refl _) (hIp _ _ _ _ _ _ hi (by omega) hl rfl) ((World.putObj_heap_other (by omega)).trans hk)⟩
end Rg
end Go.Proofs.YtejcdhdfanfkbaaGreat
