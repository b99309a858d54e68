/- follow.Save on a disk without an elder temp file, with an op armed. file: Loose, left, Fall, where no mark is. file: garbled, left, Fall, with any mark. disk: Off. disk: Boot's plain part, whatever a loose file leaves; nth. -/
import Derived.Test.YtejcdhdfanfkbaaGreatFb37
import Derived.Test.YtejcdhdfanfkbaaGreatFb09
import Derived.Test.YtejcdhdfanfkbaaGreatFb22
import Derived.Test.YtejcdhdfanfkbaaGreatFb07
import Derived.Laws.IdiomStrings
import Derived.Laws.IdiomCopy
import Derived.Deep.RegionLaw
import Derived.Deep.RegionWith
import Derived.Lib.LazyBuf
import Derived.Deep.Cut
import Derived.Deep.CutBlock
import Derived.Test.YtejcdhdfanfkbaaGreatFb23
import Derived.Test.YtejcdhdfanfkbaaGreatFb19
namespace Go.Proofs.YtejcdhdfanfkbaaGreat
namespace Fo
open Go.RowKit Hd Rd Fm Sn Dk
open Go.Proofs.YtejcdhdfanfkbaaGreat.Op
def deadD (D:DS):DS:={ D with off:=true }
def fellD (T:ByteArray) (b:Nat) (D:DS):Nat->DS
 |0=>deadD (d1 tmpN b D)
 |1=>deadD (d2 tmpN T b D)
 |2=>deadD (tick (d2 tmpN T b D))
 |3=>deadD (d4 T b D)
 |_=>deadD (tick (d4 T b D))
theorem opE_on {D:DS} (h:D.armed≠1):opE D=0:=if_neg h
theorem opE_at {D:DS} (h:D.armed=1):opE D=200:=if_pos h
theorem opS_on {D:DS} (h:D.armed≠1) (s:Bool) (act:DS->DS):opS s act D=act (tick D):=if_neg h
theorem opS_at {D:DS} (h:D.armed=1) (act:DS->DS):opS false act D=deadD (act (tick D)):=if_pos h
theorem opS_atT {D:DS} (h:D.armed=1) (act:DS->DS):opS true act D=deadD (tick D):=if_pos h
def Past (k:Nat) (D:DS):Prop:=D.armed<=0∨(k:Int)<D.armed
section
variable {w w':World} {S:Nat->Prop} {bd:Nat} {D:DS}
def Fell (w3:World) (S:Nat->Prop) (bd:Nat) (T:ByteArray) (D:DS) (k:Nat) (wx:World):Prop :=
 D.armed=(k:Int)+1/\ ∃b S',D.fl b=none/\DiskAt wx S' bd (fellD T b D k)/\Gr S w3 S' wx
theorem fk_step (h:DiskAt w S bd D) (ho:D.off=false) {text:ByteArray} {cd ct:Nat} (hd:Blk w cd #[.pointer (some ⟨bd,0,none⟩)] 57) (ht:Blk w ct #[.string text] 9) (nd: ¬ S cd) (nt: ¬ S ct)
  (hl:lk tmpN D.now=none) (hn:D.now.length<200) (hch:D.chg.length<1000000) (hb:text.size<=1000000) (h2:(text.size:Int)+(usedD D:Int)<=D.cap) :
  ∀k f,(fsF bd cd ct)[k]? =some f-> ∀wx,FJ w S bd text D k wx/\Past k D->Calls Tryz.prog f.1 (f.2.1++ #[.string tmpN]++f.2.2) wx fun e w'=>(e=.returned (.int .i64 0)/\FJ w S bd text D (k+1) w'/\Past (k+1) D)∨(e=.returned (.int .i64 200)/\Fell w S bd text D k w'):=by
 have hfit:=h.fit;have hnk:Nm.check tmpN.data.toList=0:=by decide
 intro k f' hf' wx ⟨hJ,hA⟩;obtain⟨S',D',g1,hD,hR⟩:=hJ;unfold Past at hA;rcases k with _|_|_|_|k
 ·simp only[fsF,List.getElem?_cons_zero,Option.some.injEq] at hf'
  subst hf';obtain rfl:D'=D:=hR;refine(create_go hD ho hnk hl hn (by omega)).mono ?_;rintro e w2 ⟨rfl,b,S2,hbn,hD2,g2⟩;by_cases ha:D'.armed=1
  ·rw[opS_at (D:=setF b (⟨#[]⟩,⟨#[]⟩) D') ha] at hD2
   exact Or.inr ⟨by rw[opE_at ha],by omega,b,S2,hbn,hD2,g1.trans g2⟩
  ·rw[opS_on (D:=setF b (⟨#[]⟩,⟨#[]⟩) D') ha] at hD2
   exact Or.inl ⟨by rw[opE_on ha],⟨S2,_,g1.trans g2,hD2,b,hbn,rfl⟩,by unfold Past;push_cast;omega⟩
 ·simp only[fsF,List.getElem?_cons_succ,List.getElem?_cons_zero,Option.some.injEq] at hf'
  subst hf';obtain⟨b,hbn,rfl⟩:∃b,D.fl b=none/\D'=d1 tmpN b D:=hR;have har:(d1 tmpN b D).armed=max (D.armed-1) 0:=rfl;refine(fapp_go hD (g1.blk hd nd) (g1.blk ht nt) (b:=b) (p:=(⟨#[]⟩,⟨#[]⟩)) ho (by rw[d1_now hl,<-pt_new tmpN b _ hl];exact lk_pt tmpN b _) (by show(if b=b then _ else _)=_;rw[if_pos rfl]) (by show 0+_<=_;omega) (by rw[d1_used hl hfit hbn];exact h2)).mono ?_;rintro e w2 ⟨rfl,S2,hD2,g2⟩;by_cases ha:(d1 tmpN b D).armed=1
  ·rw[opS_at ha] at hD2
   exact Or.inr ⟨by rw[opE_at ha],by omega,b,S2,hbn,hD2,g1.trans g2⟩
  ·rw[opS_on ha] at hD2
   exact Or.inl ⟨by rw[opE_on ha],⟨S2,_,g1.trans g2,hD2,b,hbn,rfl⟩,by unfold Past;push_cast;omega⟩
 ·simp only[fsF,List.getElem?_cons_succ,List.getElem?_cons_zero,Option.some.injEq] at hf'
  subst hf';obtain⟨b,hbn,rfl⟩:∃b,D.fl b=none/\D'=d2 tmpN text b D:=hR;have har:(d2 tmpN text b D).armed=max (max (D.armed-1) 0-1) 0:=rfl;refine(sync_go hD (b:=b) (p:=(⟨#[]⟩,⟨#[]⟩++text)) ho (by show lk tmpN (d1 tmpN b D).now=_;rw[d1_now hl,<-pt_new tmpN b _ hl];exact lk_pt tmpN b _) (by show(if b=b then _ else _)=_;rw[if_pos rfl])).mono ?_;rintro e w2 ⟨rfl,S2,hD2,g2⟩;by_cases ha:(d2 tmpN text b D).armed=1
  ·rw[opS_atT ha] at hD2
   exact Or.inr ⟨by rw[opE_at ha],by omega,b,S2,hbn,hD2,g1.trans g2⟩
  ·rw[opS_on ha] at hD2
   exact Or.inl ⟨by rw[opE_on ha],⟨S2,_,g1.trans g2,hD2,b,hbn,rfl⟩,by unfold Past;push_cast;omega⟩
 ·simp only[fsF,List.getElem?_cons_succ,List.getElem?_cons_zero,Option.some.injEq] at hf'
  subst hf';obtain⟨b,hbn,rfl⟩:∃b,D.fl b=none/\D'=d3 tmpN text b D:=hR;have har:(d3 tmpN text b D).armed=max (max (max (D.armed-1) 0-1) 0-1) 0:=rfl;refine(fren_go hD (g1.blk hd nd) (b:=b) ho (by show lk tmpN (d1 tmpN b D).now=_;rw[d1_now hl,<-pt_new tmpN b _ hl];exact lk_pt tmpN b _) (by show(D.chg++[_]).length<=_;rw[List.length_append];simp only[List.length_cons,List.length_nil];omega)).mono ?_;rintro e w2 ⟨rfl,S2,hD2,g2⟩;by_cases ha:(d3 tmpN text b D).armed=1
  ·rw[opS_at ha] at hD2
   exact Or.inr ⟨by rw[opE_at ha],by omega,b,S2,hbn,hD2,g1.trans g2⟩
  ·rw[opS_on ha] at hD2
   exact Or.inl ⟨by rw[opE_on ha],⟨S2,_,g1.trans g2,hD2,b,hbn,rfl⟩,by unfold Past;push_cast;omega⟩
 ·simp[fsF] at hf'
theorem fell_of {w6 wx:World} {S:Nat->Prop} {T:ByteArray} {k:Nat} (hb:Below w.heap.size w w6) (h:Fell w6 S bd T D k wx):Fell w S bd T D k wx:=by
 obtain⟨ha,b,S',q1,q2,q3⟩:=h;exact⟨ha,b,S',q1,q2,(Gr.of_below hb).trans q3⟩
set_option maxHeartbeats 6400000 in
set_option maxRecDepth 100000 in
theorem fsaveA_go (h:DiskAt w S bd D) (ho:D.off=false) (hA0:Past 0 D) {A:Option Addr} {n c:Nat} {l:List Pl} (hrd:Rd w w.heap.size 2 A n (flS l)) (hsn:n<=1000000) (hok:chkP l=0) (hk:∀x∈D.now,x.1.size<=maxLen) (hl:lk tmpN D.now=none) (hn:D.now.length<200) (hch:D.chg.length<1000000) (h2:((pL l).length:Int)+9+(usedD D:Int)<=D.cap) (hz:(pL l).length<=10000) :
  Calls Tryz.prog 22 #[.pointer (some ⟨bd,0,none⟩),.slice A n c] w fun e w'=>(e=.returned (.int .i64 0)/\Past 5 D/\ ∃b S',D.fl b=none/\DiskAt w' S' bd (fsaveD (frB 4 ⟨(pL l).toArray⟩) b D)/\Gr S w S' w')∨(e=.returned (.int .i64 200)/\ ∃k,Fell w S bd (frB 4 ⟨(pL l).toArray⟩) D k w'):=by
 have mixed:Tryz.prog.follows .mixedOrders=true:=by kernel_rfl
 have hsz:(⟨(pL l).toArray⟩:ByteArray).size=(pL l).length:=by show(pL l).toArray.size=_;rw[List.size_toArray]
 have HE:=Lib.hid (fun(wx:World) (hb:Below w.heap.size w wx)=>show Calls Tryz.prog 8 #[.slice A n c] wx fun e w'=>e=.returned (.tuple #[.string ⟨(pL l).toArray⟩,.int .i64 0])/\Below wx.heap.size wx w' from by
  have:=fenc_any A n c l wx ((hrd.below hb).more hb.size) hsn
  rwa [show encE l=.returned (.tuple #[.string ⟨(pL l).toArray⟩,.int .i64 0]) from by unfold encE;rw[hok,if_pos rfl]] at this)
 have HP:=Lib.hid (fun wx=>fput_4 ⟨(pL l).toArray⟩ wx (by rw[hsz];omega));have hfz:(frB 4 ⟨(pL l).toArray⟩).size=(pL l).length+9:=by rw[Op.frB_size,hsz]
 have hnot:inT tmpN (srt D.now)=false:=inT_no (by
  rw[srt_mem];rintro ⟨y,hy,e⟩;exact lk_none.1 hl y hy e)
 have HL:=Lib.hid (fun(wx:World) (hb:Below w.heap.size w wx)=>list_any (h.ext hb) ho hk);have hsl:(srt D.now).length<=1000000:=by
  rw[srt_len];have:D.now.length<=200:=h.fit.now_few;omega
 have HC:=Lib.hid (show ∀(A:Option Addr) (n c:Nat) (wx:World),Rd wx wx.heap.size 1 A n (txv (srt D.now))->n<=1000000->Calls Tryz.prog 51 #[.slice A n c,.string tmpN] wx fun e w'=>e=.returned (.bool false)/\Below wx.heap.size wx w' from fun A n c wx hr hn=>by
  have:=contains_any A n c (srt D.now) tmpN wx hr hn
  rwa [hnot] at this)
 have HST:=Lib.hid (fun(w3:World) (cd ct:Nat) (hb:Below w.heap.size w w3) (hd:Blk w3 cd #[.pointer (some ⟨bd,0,none⟩)] 57) (ht:Blk w3 ct #[.string (frB 4 ⟨(pL l).toArray⟩)] 9) (nd: ¬ S cd) (nt: ¬ S ct)=>fk_step (h.ext hb) ho hd ht nd nt hl hn hch (by rw[hfz];omega) (by rw[hfz];push_cast;exact h2));have HDS:=Lib.hid (show ∀(wx:World) (S':Nat->Prop) (b:Nat),D.fl b=none->Past 4 D->DiskAt wx S' bd (d4 (frB 4 ⟨(pL l).toArray⟩) b D)->Gr S w S' wx->Calls Tryz.prog 60 #[.pointer (some ⟨bd,0,none⟩)] wx fun e w'=>(e=.returned (.int .i64 0)/\Past 5 D/\ ∃b S',D.fl b=none/\DiskAt w' S' bd (fsaveD (frB 4 ⟨(pL l).toArray⟩) b D)/\Gr S w S' w')∨(e=.returned (.int .i64 200)/\ ∃k,Fell w S bd (frB 4 ⟨(pL l).toArray⟩) D k w') from fun wx S' b hbn hA hD hG=>by
  unfold Past at hA;have har:(d4 (frB 4 ⟨(pL l).toArray⟩) b D).armed=max (max (max (max (D.armed-1) 0-1) 0-1) 0-1) 0:=rfl;refine(dirsync_go hD ho).mono ?_;rintro e w' ⟨rfl,S2,q1,q2⟩;by_cases ha:(d4 (frB 4 ⟨(pL l).toArray⟩) b D).armed=1
  ·rw[opS_atT ha] at q1
   exact Or.inr ⟨by rw[opE_at ha],4,by omega,b,S2,hbn,q1,hG.trans q2⟩
  ·rw[opS_on ha] at q1
   exact Or.inl ⟨by rw[opE_on ha],by unfold Past;push_cast;omega,b,S2,hbn,q1,hG.trans q2⟩)
 have HS0:=Lib.hid (show ∀k,w.heap.size<=k-> ¬ S k from fun k hk=>by
  obtain⟨gN,gS,v,h⟩:=h;exact h.gt hk)
 have HD0:=Lib.hid h;have HA0:=Lib.hid hA0;clear hA0;have HB:=Lib.hid (ext_alloc w (.cells #[.pointer (some ⟨bd,0,none⟩)] 57));have HBX:=Lib.hid (Blk.new w #[.pointer (some ⟨bd,0,none⟩)] 57);have HLT:=Lib.hid (show w.heap.size<(w.alloc (.cells #[.pointer (some ⟨bd,0,none⟩)] 57)).heap.size from by simp);clear h ho hrd hok hk hl hn hch h2 hz hfz hsz hnot;generalize (⟨(pL l).toArray⟩:ByteArray)=Bo at *
 generalize frB 4 Bo=T at *
 generalize srt D.now=L at *
 go_enter Tryz.func22, Tryz.ntmps22
 unfold tmpN at HC;go_wp2_with (first
  |(go_at_call 8;refine(HE.out _ HB.out).mono ?_;rintro e1 w1 ⟨rfl,hb1⟩;have HB1:=Lib.hid (HB.out.trans (hb1.mono HB.out.size));have HX1:=Lib.hid (HBX.out.below hb1 HLT.out);have k0:=HX1.out.cell 0 (v:=.pointer (some ⟨bd,0,none⟩)) rfl;clear hb1)
  |(go_at_call 50;refine(HP.out _).mono ?_;rintro e2 w2 ⟨rfl,hb2⟩;have HB2:=Lib.hid (HB1.out.trans (hb2.mono HB1.out.size));have HX2:=Lib.hid (HX1.out.ext hb2);have HX3:=Lib.hid (HX2.out.alloc (.cells #[.string T] 9));have HT3:=Lib.hid (Blk.new w2 #[.string T] 9);have HB3:=Lib.hid (HB2.out.trans ((ext_alloc w2 (.cells #[.string T] 9)).mono HB2.out.size));have HNT:=Lib.hid (HS0.out w2.heap.size HB2.out.size);have k3:=HX3.out.cell 0 (v:=.pointer (some ⟨bd,0,none⟩)) rfl;clear hb2 k0)
  |(go_at_call 52;refine(HL.out _ HB3.out).mono ?_;rintro e4 w4 ⟨v4,rfl,hown,hb4⟩;obtain⟨A4,c4,rfl,-,-⟩:=own_slice hown;have HR4:=Lib.hid (Rd.of_own hown);have HX4:=Lib.hid (HX3.out.ext hb4);have HT4:=Lib.hid (HT3.out.ext hb4);have HB4:=Lib.hid (HB3.out.trans (hb4.mono HB3.out.size));clear hown hb4 k3)
  |(go_at_call 51;refine(HC.out _ _ _ _ HR4.out hsl).mono ?_;rintro e5 w5 ⟨rfl,hb5⟩;have HX5:=Lib.hid (HX4.out.ext hb5);have HT5:=Lib.hid (HT4.out.ext hb5);have HB5:=Lib.hid (HB4.out.trans (hb5.mono HB4.out.size));have k5:=HX5.out.cell 0 (v:=.pointer (some ⟨bd,0,none⟩)) rfl;clear hb5))
 obtain⟨cd,hcd⟩:∃cd,w.heap.size=cd:=⟨_,rfl⟩
 obtain⟨ct,hct⟩:∃ct,w2.heap.size=ct:=⟨_,rfl⟩
 have hW:w5.alloc (.cells #[.func (.func 58) #[.pointer (some ⟨bd,0,none⟩)] #[],.func (.func 54) #[] #[.pointer (some ⟨cd,0,none⟩),.pointer (some ⟨ct,0,none⟩)],.func (.func 59) #[.pointer (some ⟨bd,0,none⟩)] #[],.func (.func 56) #[] #[.pointer (some ⟨cd,0,none⟩)]] 110)=w5.alloc (.cells ((fsF bd cd ct).map fv).toArray 110):=rfl;have hsz5:w.heap.size<=w5.heap.size:=HB5.out.size;have hB6:Below w.heap.size w (w5.alloc (.cells ((fsF bd cd ct).map fv).toArray 110)):=HB5.out.trans ((ext_alloc w5 _).mono hsz5);have hX6:=HX5.out.alloc (.cells ((fsF bd cd ct).map fv).toArray 110);have hT6:=HT5.out.alloc (.cells ((fsF bd cd ct).map fv).toArray 110);have hF6:=Blk.new w5 ((fsF bd cd ct).map fv).toArray 110;have hnf:=HS0.out w5.heap.size hsz5;have hnd:=HS0.out w.heap.size (Nat.le_refl _);have hnt:=HNT.out;rw[hcd] at hX6 hnd;rw[hct] at hT6 hnt;have HST2:=Lib.hid (HST.out _ cd ct hB6 hX6 hT6 hnd hnt);have HJ0:Hid (FJ (w5.alloc (.cells ((fsF bd cd ct).map fv).toArray 110)) S bd T D 0 (w5.alloc (.cells ((fsF bd cd ct).map fv).toArray 110))):=Lib.hid ⟨S,D,Gr.refl _ _,HD0.out.ext hB6,rfl⟩;rw[hcd,hct,hW];generalize hcf:w5.heap.size=cf at *
 generalize w5.alloc (.cells ((fsF bd cd ct).map fv).toArray 110)=w6 at *
 have HB6:=Lib.hid hB6;have HRD:=Lib.hid (show ∀k wx,FJ w6 S bd T D k wx->Rd wx wx.heap.size 1 (some ⟨cf,0,none⟩) 4 ((fsF bd cd ct).map fv) from by
  rintro k wx ⟨S',D',g1,-⟩;have:=rd_blk (g1.blk hF6 hnf);simpa[fsF] using this)
 have HXJ:=Lib.hid (show ∀k wx,FJ w6 S bd T D k wx->Blk wx cd #[.pointer (some ⟨bd,0,none⟩)] 57 from by
  rintro k wx ⟨S',D',g1,-⟩;exact g1.blk hX6 hnd)
 have HEN:=Lib.hid (fsF_enters bd cd ct);clear hB6 hX6 hT6 hF6 hnf hnd hnt hsz5 hcd hct hW hcf k5;clear HST HE HP HL HC HB HBX HLT HB1 HB2 HB3 HB4 HB5 HX1 HX2 HX3 HX4 HX5 HT3 HT4 HT5 HNT HS0 HD0 HR4;generalize hfs:fsF bd cd ct=fs at *
 have HFS:=Lib.hid hfs;clear hfs;go_loopw [48] (fun v wr=>∃k:Nat,v=.int .i64 k/\k<=4/\Hid (FJ w6 S bd T D k wr/\Past k D)) (fun v _=>4-(intOf v).toNat)
 case atStart=>exact⟨0,by go_num,by omega,Lib.hid ⟨HJ0.out,HA0.out⟩⟩
 case round =>
  clear HJ0;obtain⟨k,rfl,hk,HX⟩:=hrel;by_cases hkn:k<4
  ·obtain⟨ad,u,hA,hbk,hx,hc⟩:=(HRD.out k wr HX.out.1).at1 hkn
   obtain⟨f,hf,rfl⟩:∃f,fs[k]? =some f/\fv f=u:=by
    rw[List.getElem?_map] at hx;rcases hf:fs[k]? with _|f
    ·rw[hf] at hx;cases hx
    ·rw[hf] at hx
     exact⟨f,rfl,by simpa using hx⟩
   have hen2:=HEN.out f (List.mem_of_getElem? hf);have HC:=Lib.hid (HST2.out k f hf wr HX.out);obtain⟨fid,first,caps⟩:=f;unfold fv at hc;dsimp only at hc hen2 HC;cases hA
   rw[Addr.add_lit,Nat.zero_add] at hc;clear hx hf hbk;have hki:(k:Int)<4:=by omega
   unfold tmpN at HC;go_wp2_with (first
    |(go_at_fn fid;refine HC.out.mono ?_;rintro e1 w1 (⟨rfl,hJ⟩|⟨rfl,hJ⟩)<;>(have HJ:=Lib.hid hJ;clear hJ)))
   ·go_roundw
    ·exact⟨k+1,by go_num,by omega,HJ⟩
    ·simp[intOf];omega
   ·go_ret
    exact Or.inr ⟨rfl,k,fell_of HB6.out HJ.out⟩
  ·have e:k=4:=by omega
   subst e;have k7:=(HXJ.out 4 wr HX.out.1).cell 0 (v:=.pointer (some ⟨bd,0,none⟩)) rfl;obtain⟨⟨S7,D7,g7,hD7,b,hbn,rfl⟩,hA7⟩:=HX.out;have HA7:=Lib.hid hA7;have HD7:=Lib.hid hD7;have HG7:=Lib.hid (show Gr S w S7 wr from(Gr.of_below HB6.out).trans g7);have HBN:=Lib.hid hbn;clear hD7 g7 hbn hA7 HX;go_wp2_with (go_at_call 60;refine(HDS.out _ _ _ HBN.out HA7.out HD7.out HG7.out).mono ?_;rintro e8 w8 (⟨rfl,q⟩|⟨rfl,q⟩)<;>(have HQ:=Lib.hid q;clear q))
   ·go_ret
    exact Or.inl ⟨rfl,HQ.out⟩
   ·go_ret
    exact Or.inr ⟨rfl,HQ.out⟩
end
end Fo
end Go.Proofs.YtejcdhdfanfkbaaGreat
namespace Go.Proofs.YtejcdhdfanfkbaaGreat
namespace Dk
open Go.RowKit Hd Fm Sn
theorem run_copy_str0 {P:Program} (w:World) (dT sT ty elem:TypeId) (d:Option Addr) (dLen dCap:Nat) (s:ByteArray) (hu:P.underlying dT=some (.slice elem)) (hs:(P.info? elem).map (·.size)=some 1) (hn:Nat.min s.size dLen=0) :
  (Builtin.copy_ #[dT,sT] ty #[.slice d dLen dCap,.string s]).run P w=.ok (goInt 0) w:=by
 cases hq:P.info? elem with
 |none=>simp[hq] at hs
 |some i =>
  cases d<;>simp[Builtin.copy_,run_underlying hu,Builtin.lenOf,Builtin.firstCells,sizeOf,typeInfo,hq,hn,storeCells]
theorem step_copy_str0 {P:Program} {ops:Array Oper} {o:Oper} {a:Act} {w:World} {K:Act->World->Prop} {Q:Exit->Act->World->Prop} {E:Prop} (hgd:o.guard=none) (d s:Operand) (dT sT:TypeId)
  (ho:o.op=.call { callee:=.builtin .copy,args:=#[d,s],argTypes:=#[dT,sT] }) (elem:TypeId) (hu:P.underlying dT=some (.slice elem)) (hsz:(P.info? elem).map (·.size)=some 1)
  (dp:Option Addr) (dLen dCap:Nat) (u:ByteArray) (hd:a.eval d=.slice dp dLen dCap) (hs:a.eval s=.string u) (hn:Nat.min u.size dLen=0)
  (h:K (a.put o.dst (goInt 0)) w):if Region.wanted o (yielded ops a.tmps)=true then Oper.wp P o a w K Q else E:=by
 have hw:Region.wanted o (yielded ops a.tmps)=true:=by simp[Region.wanted,hgd]
 rw[if_pos hw];have hrun:=run_copy_str0 (P:=P) w dT sT o.type elem dp dLen dCap u hu hsz hn;unfold Oper.wp;simp[execOp,ho,resolve,invoke,builtin,hd,hs,hrun,Result.andThen]
 exact h
theorem byte_size:(Tryz.prog.info? 5).map (·.size)=some 1:=by kernel_rfl
theorem loose_any (a b:ByteArray) (w:World):Calls Tryz.prog 65 #[fagg a b] w fun e w'=>e=.returned (.bool (!decide (a=b)))/\Below w.heap.size w w':=by
 have mixed:Tryz.prog.follows .mixedOrders=true:=by kernel_rfl
 unfold fagg;have hB:=Blk.new w #[.string a,.string b] 133;have hE:=ext_alloc w (.cells #[.string a,.string b] 133);have c0:=fun q:Bw (w.alloc (.cells #[.string a,.string b] 133))=>(hB.ext q.h).cell 0 (v:=.string a) rfl
 have c1:=fun q:Bw (w.alloc (.cells #[.string a,.string b] 133))=>(hB.ext q.h).cell 1 (v:=.string b) rfl
 have HS:=Lib.hid (show ∀q:Bw (w.alloc (.cells #[.string a,.string b] 133)),Calls Tryz.prog 112 #[.agg #[.string a,.string b]] q.to fun e w'=>e=.returned (.agg #[.string b,.string b])/\Below q.to.heap.size q.to w' from fun q=>fsync_any a b q.to);have hq:∀w,(binOp .neq 133 (.agg #[.string a,.string b]) (.agg #[.string b,.string b])).run Tryz.prog w=.ok (.bool (decide (a≠b))) w:=fun w=>by
  have e:=beqL a b (r:=decide (a=b)) rfl;by_cases hab:a=b
  ·subst hab
   simp[go_sem]
  ·have e':(a.toList==b.toList)=false:=by rw[e];exact decide_eq_false hab
   simp[go_sem,e',hab]
 go_enter Tryz.func65, Tryz.ntmps65
 go_wp2_with fail
 refine wp_region_quiet_below (by assumption) (by kernel_rfl) ?_
 repeat (go_big_quiet_step ((go_at_call 112;refine below_of (HS.out _))))
 refine wpQuiet_nil ?_;intro _ hw';obtain⟨q,rfl⟩:=hw';go_wp2_with fail
 go_ret
 exact⟨rfl,hE.trans (q.h.mono hE.size)⟩
def leftB (p:ByteArray×ByteArray) (cut:Int):ByteArray :=
 if preB p.2 p.1=true then p.1++(p.2.extract p.1.size p.2.size).extract 0 (min (max cut 0).toNat (p.2.size-p.1.size)) else if 0<cut then p.2 else p.1
theorem cutp_any (s p:ByteArray) (w:World):Calls Tryz.prog 160 #[.string s,.string p] w fun e w'=>e=.returned (.tuple #[.string (if preB s p=true then s.extract p.size s.size else s),.bool (preB s p)])/\w=w':=by
 have mixed:Tryz.prog.follows .mixedOrders=true:=by kernel_rfl
 have H1:∀w,Calls Tryz.prog 209 #[.string s,.string p] w fun e w'=>e=.returned (.tuple #[.string (if preB s p=true then s.extract p.size s.size else s),.bool (preB s p)])/\w=w':=by
  intro w;have HH:=Lib.hid (fun w=>hp1 s p w (b:=preB s p) rfl);rcases hb:preB s p with _|_
  ·rw[hb] at HH
   go_enter Tryz.func209, Tryz.ntmps209
   go_wp2_with (go_at_call 263;refine(HH.out _).mono ?_;rintro e1 w1 ⟨rfl,rfl⟩)
   go_ret2
   exact⟨rfl,rfl⟩
  ·rw[hb] at HH
   have hz:p.size<=s.size:=by
    have:=congrArg ByteArray.size ((preB_iff s p).1 hb);rw[ByteArray.size_extract] at this;omega
   have hz1:(p.size:Int)<=(s.size:Int):=by omega
   have hz2:(0:Int)<=(p.size:Int):=by omega
   go_enter Tryz.func209, Tryz.ntmps209
   go_wp2_with (go_at_call 263;refine(HH.out _).mono ?_;rintro e1 w1 ⟨rfl,rfl⟩)
   go_ret2
   exact⟨rfl,rfl⟩
 have H2:=Lib.hid H1;clear H1;generalize (if preB s p=true then s.extract p.size s.size else s)=T at *
 generalize preB s p=b at *
 go_enter Tryz.func160, Tryz.ntmps160
 go_wp2_with (go_at_call 209;refine(H2.out _).mono ?_;rintro e1 w1 ⟨rfl,rfl⟩)
 go_ret2
 exact⟨rfl,rfl⟩
set_option maxHeartbeats 1600000 in
set_option maxRecDepth 100000 in
theorem garb_nil (s:ByteArray) (w:World) (hz:s.size<=1000000):Calls Tryz.prog 161 #[.string s,.string ⟨#[]⟩] w fun e w'=>e=.returned (.string s)/\Below w.heap.size w w':=by
 have mixed:Tryz.prog.follows .mixedOrders=true:=by kernel_rfl
 have hcv:=run_bytes_of_string (P:=Tryz.prog) w 9 86 5 s Tryz.underlying9 Tryz.underlying86 Tryz.underlying5;have hcap:=grownCap_ge w s.size 0 5;have hw1:IntKind.i64.wrap (s.size:Int)=(s.size:Int):=by rw[IntKind.wrap_i64];omega
 have hw2:(0:Int)<=(s.size:Int):=by omega
 have hw3:IntKind.i64.wrap 0=0:=by decide
 have HX:=Lib.hid (show ∀c,(fun wx:World=>wx.heap[w.heap.size]? =some (.cells (bytesRow s c) 5 ((bytesRow s c).size,(bytesRow s c).size+1))) (w.alloc (.cells (bytesRow s c) 5 ((bytesRow s c).size,(bytesRow s c).size+1))).drew from fun c=>heap_alloc_new w _);have hb:=(ext_alloc w (.cells (bytesRow s (grownCap w s.size 0 5)) 5 ((bytesRow s (grownCap w s.size 0 5)).size,(bytesRow s (grownCap w s.size 0 5)).size+1))).drew
 go_enter Tryz.func161, Tryz.ntmps161
 go_wp2_with fail
 have HW:=Lib.hid (And.intro hb (HX.out (grownCap w s.size 0 5)));clear hb HX hcv;generalize grownCap w s.size 0 5=C at *
 generalize (w.alloc (.cells (bytesRow s C) 5 ((bytesRow s C).size,(bytesRow s C).size+1))).drew=w1 at *
 have hback:∀wx:World,wx.heap[w.heap.size]? =some (.cells (bytesRow s C) 5 ((bytesRow s C).size,(bytesRow s C).size+1))->(convert 86 9 (.slice (some ⟨w.heap.size,0,none⟩) s.size C)).run Tryz.prog wx=.ok (.string s) wx:=fun wx hx=>by
  have hl:s.data.toList.length=s.size:=rfl;rw[<-hl];have:=run_convert_bytes_back (P:=Tryz.prog) wx 86 9 5 ⟨w.heap.size,0,none⟩ C s.data.toList Tryz.underlying86 Tryz.underlying5 Tryz.underlying9 (fun j hj=>by
   rw[Addr.add_lit,Nat.zero_add,cell_of_row wx w.heap.size j _ _ _ hx,bytesRow_at s C j (by simpa using hj)];simp)
  rw[this]
 have hbk:=hback w1.drew HW.out.2;have hbk2:=hback w1 HW.out.2;have HE:=Lib.hid (show Below w.heap.size w w1.drew from HW.out.1.drew);clear hback;by_cases hC:C=s.size
 ·subst hC
  go_region_law (refine step_copy_str0 rfl (.tmp 19) (.tmp 25) 86 9 rfl 5 Tryz.underlying86 byte_size (some ⟨w.heap.size,0,none⟩) 0 0 ⟨#[]⟩ (by simp[go_sem,Act.eval]) (by simp[go_sem,Act.eval];rfl) rfl ?_)
  all_goals
   go_wp2_with fail
   go_ret
   exact⟨rfl,HE.out⟩
 ·go_region_law (refine step_copy_str0 rfl (.tmp 19) (.tmp 25) 86 9 rfl 5 Tryz.underlying86 byte_size (some ⟨w.heap.size,s.size,none⟩) 0 (C-s.size) ⟨#[]⟩ (by simp[go_sem,Act.eval,hC]) (by simp[go_sem,Act.eval];rfl) rfl ?_)
  all_goals
   go_wp2_with fail
   go_ret
   exact⟨rfl,HE.out⟩
set_option maxHeartbeats 1600000 in
set_option maxRecDepth 100000 in
theorem left_any (a b:ByteArray) (cut:Int) (w:World) (h1:a.size<=1000000) (h2:b.size<=1000000) :
  Calls Tryz.prog 116 #[fagg a b,.int .i64 cut,.string ⟨#[]⟩] w fun e w'=>e=.returned (.string (leftB (a,b) cut))/\Below w.heap.size w w':=by
 have mixed:Tryz.prog.follows .mixedOrders=true:=by kernel_rfl
 have hB:=Blk.new w #[.string a,.string b] 133;have hE:=ext_alloc w (.cells #[.string a,.string b] 133);have c0:=fun q:Bw (w.alloc (.cells #[.string a,.string b] 133))=>(hB.ext q.h).cell 0 (v:=.string a) rfl
 have HC:=Lib.hid (fun w=>cutp_any b a w);unfold fagg leftB;dsimp only;rcases hb:preB b a with _|_
 ·rw[hb] at HC
  simp only[Bool.false_eq_true,if_false] at HC ⊢;by_cases hc:0<cut
  ·have hc':cut>0:=hc
   rw[if_pos hc]
   go_enter Tryz.func116, Tryz.ntmps116
   go_wp2_with (go_at_call 160;refine(HC.out _).mono ?_;rintro e1 w1 ⟨rfl,rfl⟩)
   go_ret
   exact⟨rfl,hE⟩
  ·have hc': ¬ cut>0:=hc
   rw[if_neg hc]
   go_enter Tryz.func116, Tryz.ntmps116
   go_wp2_with (go_at_call 160;refine(HC.out _).mono ?_;rintro e1 w1 ⟨rfl,rfl⟩)
   go_ret
   exact⟨rfl,hE⟩
 ·rw[hb] at HC
  simp only[if_true] at HC ⊢;have hz:a.size<=b.size:=by
   have:=congrArg ByteArray.size ((preB_iff b a).1 hb);rw[ByteArray.size_extract] at this;omega
  obtain⟨T,hT⟩:∃T,T=b.extract a.size b.size:=⟨_,rfl⟩
  have hts:T.size=b.size-a.size:=by rw[hT,ByteArray.size_extract];omega
  rw[<-hT,<-hts];rw[<-hT] at HC;have hT9:T.size<=1000000:=by omega
  clear hT hts hb hz h2;have HG:=Lib.hid (show ∀q:Bw (w.alloc (.cells #[.string a,.string b] 133)),Calls Tryz.prog 161 #[.string (T.extract 0 (min (max cut 0).toNat T.size)),.string ⟨#[]⟩] q.to fun e w'=>e=.returned (.string (T.extract 0 (min (max cut 0).toNat T.size)))/\Below q.to.heap.size q.to w' from fun q=>garb_nil _ q.to (by rw[ByteArray.size_extract];omega));generalize hX:T.extract 0 (min (max cut 0).toNat T.size)=X at *
  have q0:(0:Int)<=min (max cut 0) (T.size:Int):=by omega
  have q1:min (max cut 0) (T.size:Int)<=(T.size:Int):=by omega
  have hsl:T.extract 0 (min (max cut 0) (T.size:Int)).toNat=X:=by
   rw[<-hX];congr 1;omega
  have hlen:a.size+X.size<=9223372036854775807:=by
   have:X.size<=T.size:=by rw[<-hX,ByteArray.size_extract];omega
   omega
  clear hX h1
  go_enter Tryz.func116, Tryz.ntmps116
  go_wp2_with (go_at_call 160;refine(HC.out _).mono ?_;rintro e1 w1 ⟨rfl,rfl⟩)
  refine wp_region_quiet_below (by assumption) (by kernel_rfl) ?_
  repeat (go_big_quiet_step ((go_at_call 161;refine below_of (HG.out _))))
  refine wpQuiet_nil ?_;intro _ hw';obtain⟨q,rfl⟩:=hw';go_wp2_with fail
  go_ret
  exact⟨rfl,hE.trans (q.h.mono hE.size)⟩
theorem fall_any (a b:ByteArray) (cut:Int) (w:World) (h1:a.size<=1000000) (h2:b.size<=1000000) :
  Calls Tryz.prog 66 #[fagg a b,.int .i64 cut,.string ⟨#[]⟩] w fun e w'=>e=.returned (fagg (leftB (a,b) cut) (leftB (a,b) cut))/\Below w.heap.size w w':=by
 have HL:=Lib.hid (fun w=>left_any a b cut w h1 h2);unfold fagg at *
 generalize leftB (a,b) cut=X at *
 have e2:=ext_second w (.cells #[.string a,.string b] 133) (.cells #[.string ⟨#[]⟩,.string ⟨#[]⟩] 133);have hB:=blk_second w (.cells #[.string a,.string b] 133) #[.string ⟨#[]⟩,.string ⟨#[]⟩] 133;have hA:=(Blk.new w #[.string a,.string b] 133).alloc (.cells #[.string ⟨#[]⟩,.string ⟨#[]⟩] 133)
 go_enter Tryz.func66, Tryz.ntmps66
 go_wp2_with (go_at_call 116;refine(HL.out _).mono ?_;rintro e1 w1 ⟨rfl,hb⟩;have hx:=hB.ext hb;have k0:=hx.cell 0 rfl;have k1:=hx.cell 1 rfl;have f0:=hx.fz 0;have f1:=hx.fz 1;have HX:=Lib.hid (And.intro hx hb);clear hx hb)
 refine bodyPost_ret (v:=.agg #[.string X,.string X]) (by exact results_cell1 rfl rfl (((HX.out.1).put 0 (.string X)).put 1 (.string X)) Tryz.underlying133 rfl file_info) (by exact rfl) ?_;refine⟨rfl,?_⟩;exact((e2.trans (HX.out.2.mono e2.size)).setCell (p:=⟨w.heap.size+1,0,none⟩) (by show w.heap.size<=w.heap.size+1;omega) _).setCell (p:=⟨w.heap.size+1,1,none⟩) (by show w.heap.size<=w.heap.size+1;omega) _
end Dk
end Go.Proofs.YtejcdhdfanfkbaaGreat
namespace Go.Proofs.YtejcdhdfanfkbaaGreat
namespace Dk
open Go.RowKit Hd Fm Sn
def gN (s m:ByteArray):Nat:=min (min m.size 64) s.size
def garbL (s m:ByteArray):List UInt8:=s.data.toList.take (s.size-gN s m)++m.data.toList.drop (m.size-gN s m)
def garbB (s m:ByteArray):ByteArray:=⟨(garbL s m).toArray⟩
theorem extract_end (m:ByteArray) (i:Nat):(m.extract i m.size).data.toList=m.data.toList.drop i:=by
 rw[ByteArray.data_extract,Array.toList_extract,List.extract_eq_take_drop,List.take_of_length_le];rw[List.length_drop];exact Nat.le_refl _
set_option maxHeartbeats 1600000 in
set_option maxRecDepth 100000 in
theorem garb_any (s m:ByteArray) (w:World) (hz:s.size<=1000000) (hm:m.size<=1000000):Calls Tryz.prog 161 #[.string s,.string m] w fun e w'=>e=.returned (.string (garbB s m))/\Below w.heap.size w w':=by
 have mixed:Tryz.prog.follows .mixedOrders=true:=by kernel_rfl
 have hcv:=run_bytes_of_string (P:=Tryz.prog) w 9 86 5 s Tryz.underlying9 Tryz.underlying86 Tryz.underlying5;have hcap:=grownCap_ge w s.size 0 5;have hw1:IntKind.i64.wrap (s.size:Int)=(s.size:Int):=by rw[IntKind.wrap_i64];omega
 have hw2:(0:Int)<=(s.size:Int):=by omega
 have HNE:=Lib.hid (show(if(s.size:Int)<if 64<(m.size:Int) then 64 else(m.size:Int) then(s.size:Int) else if 64<(m.size:Int) then 64 else(m.size:Int))=((gN s m:Nat):Int) from by unfold gN;omega);have hk1:gN s m<=s.size:=by unfold gN;omega
 have hk2:gN s m<=m.size:=by unfold gN;omega
 have hk3:gN s m<=s.size/\gN s m<=m.size:=⟨hk1,hk2⟩
 have HGB:=Lib.hid (show garbB s m=⟨(s.data.toList.take (s.size-gN s m)++m.data.toList.drop (m.size-gN s m)).toArray⟩ from rfl)
 go_enter Tryz.func161, Tryz.ntmps161
 go_upto_region 2 with fail
 rw[HNE.out];generalize gN s m=K at *
 have hw4:IntKind.i64.wrap ((s.size:Int)-(K:Int))=((s.size-K:Nat):Int):=by rw[IntKind.wrap_i64];omega
 have hw5:IntKind.i64.wrap ((m.size:Int)-(K:Int))=((m.size-K:Nat):Int):=by rw[IntKind.wrap_i64];omega
 go_upto_region 3 with fail
 have HX:=Lib.hid (show ∀c,(fun wx:World=>wx.heap[w.heap.size]? =some (.cells (bytesRow s c) 5 ((bytesRow s c).size,(bytesRow s c).size+1))) (w.alloc (.cells (bytesRow s c) 5 ((bytesRow s c).size,(bytesRow s c).size+1))).drew from fun c=>heap_alloc_new w _);have hb:=(ext_alloc w (.cells (bytesRow s (grownCap w s.size 0 5)) 5 ((bytesRow s (grownCap w s.size 0 5)).size,(bytesRow s (grownCap w s.size 0 5)).size+1))).drew;have HW:=Lib.hid (And.intro hb (HX.out (grownCap w s.size 0 5)));clear hb HX hcv;generalize grownCap w s.size 0 5=C at *
 generalize (w.alloc (.cells (bytesRow s C) 5 ((bytesRow s C).size,(bytesRow s C).size+1))).drew=w1 at *
 have hsd:s.data.toList.length=s.size:=rfl;have hmd:m.data.toList.length=m.size:=rfl;have hrow:(bytesRow s C).size=s.size+(C-s.size):=by unfold bytesRow;simp
 have hc0:∀(wx:World),wx.heap[w.heap.size]? =w1.heap[w.heap.size]? -> ∀j,j<s.size->wx.cell? ⟨w.heap.size,j,none⟩=some (.int .u8 ((s.data.toList.getD j 0).toNat:Int))/\wx.frozen? ⟨w.heap.size,j,none⟩=false:=by
  intro wx hx j hj;rw[HW.out.2] at hx
  constructor
  ·rw[cell_of_row wx w.heap.size j _ _ _ hx,bytesRow_at s C j hj,List.getD_eq_getElem?_getD,Array.getElem?_toList,Array.getElem?_eq_getElem hj]
   rfl
  ·unfold World.frozen?
   rw[hx];simp only[hrow];simp
   omega
 have hback:∀(wx:World),(∀j (hj:j<(s.data.toList.take (s.size-K)++m.data.toList.drop (m.size-K)).length),wx.cell? ⟨w.heap.size,j,none⟩=some (.int .u8 (((s.data.toList.take (s.size-K)++m.data.toList.drop (m.size-K))[j]).toNat:Int)))->(convert 86 9 (.slice (some ⟨w.heap.size,0,none⟩) s.size C)).run Tryz.prog wx=.ok (.string (garbB s m)) wx:=fun wx hx=>by
  have hl:(s.data.toList.take (s.size-K)++m.data.toList.drop (m.size-K)).length=s.size:=by rw[List.length_append,List.length_take,List.length_drop,hsd,hmd];omega
  have:=run_convert_bytes_back (P:=Tryz.prog) wx 86 9 5 ⟨w.heap.size,0,none⟩ C (s.data.toList.take (s.size-K)++m.data.toList.drop (m.size-K)) Tryz.underlying86 Tryz.underlying5 Tryz.underlying9 (fun j hj=>by
   rw[Addr.add_lit,Nat.zero_add];exact hx j hj)
  rw[hl] at this;rw[this,HGB.out]
 have HE:=Lib.hid (show Below w.heap.size w w1.drew from HW.out.1.drew);by_cases hK:K=0
 ·subst hK
  have hb1:=hback w1.drew (fun j hj=>by
   have e:s.data.toList.take (s.size-0)++m.data.toList.drop (m.size-0)=s.data.toList:=by
    rw[List.take_of_length_le (by rw[hsd];omega),List.drop_eq_nil_of_le (by rw[hmd];omega),List.append_nil]
   have hj2:j<s.size:=by rw[e,hsd] at hj;exact hj
   rw[(hc0 w1.drew rfl j hj2).1];simp only[e];rw[List.getD_eq_getElem?_getD,List.getElem?_eq_getElem (by rw[hsd];exact hj2)];rfl)
  have hw6:IntKind.i64.wrap (m.size:Int)=(m.size:Int):=by rw[IntKind.wrap_i64];omega
  have hw7:(0:Int)<=(m.size:Int):=by omega
  have hsz0:(m.extract m.size m.size).size=0:=by rw[ByteArray.size_extract];omega
  clear hback hc0 hw4 hw5;by_cases hC:C=s.size
  ·subst hC
   go_region_law (refine step_copy_str0 rfl (.tmp 19) (.tmp 25) 86 9 rfl 5 Tryz.underlying86 byte_size (some ⟨w.heap.size,0,none⟩) 0 0 (m.extract m.size m.size) (by simp[go_sem,Act.eval]) (by simp[go_sem,Act.eval]) (by rw[hsz0];rfl) ?_)
   all_goals
    go_wp2_with fail
    go_ret
    exact⟨rfl,HE.out⟩
  ·go_region_law (refine step_copy_str0 rfl (.tmp 19) (.tmp 25) 86 9 rfl 5 Tryz.underlying86 byte_size (some ⟨w.heap.size,s.size,none⟩) 0 (C-s.size) (m.extract m.size m.size) (by simp[go_sem,Act.eval]) (by simp[go_sem,Act.eval]) (by rw[hsz0];rfl) ?_)
   all_goals
    go_wp2_with fail
    go_ret
    exact⟨rfl,HE.out⟩
 ·have hux:(m.extract (m.size-K) m.size).data.toList=m.data.toList.drop (m.size-K):=extract_end m _
  have husz:(m.extract (m.size-K) m.size).size=K:=by rw[ByteArray.size_extract];omega
  have hcs:∀(wx:World),wx.heap[w.heap.size]? =w1.heap[w.heap.size]? ->(∀j,j<(m.extract (m.size-K) m.size).size->(wx.cell? ⟨w.heap.size,s.size-K+j,none⟩).isSome=true)/\ ∀j,j<(m.extract (m.size-K) m.size).size->wx.frozen? ⟨w.heap.size,s.size-K+j,none⟩=false:=fun wx hx =>
   ⟨fun j hj=>by rw[(hc0 wx hx (s.size-K+j) (by omega)).1];rfl,fun j hj=>(hc0 wx hx (s.size-K+j) (by omega)).2⟩
  have hB1:∀(wx:World),wx.heap[w.heap.size]? =w1.heap[w.heap.size]? ->(convert 86 9 (.slice (some ⟨w.heap.size,0,none⟩) s.size C)).run Tryz.prog (wx.setCells w.heap.size (s.size-K) ((m.extract (m.size-K) m.size).data.toList.map fun x=>Value.int .u8 (x.toNat:Int)))=.ok (.string (garbB s m)) (wx.setCells w.heap.size (s.size-K) ((m.extract (m.size-K) m.size).data.toList.map fun x=>Value.int .u8 (x.toNat:Int))):=fun wx hx=>hback _ (fun j hj=>by
   have htl:(s.data.toList.take (s.size-K)).length=s.size-K:=by rw[List.length_take,hsd];omega
   have hdl:(m.data.toList.drop (m.size-K)).length=K:=by rw[List.length_drop,hmd];omega
   have hjl:j<s.size:=by rw[List.length_append,htl,hdl] at hj;omega
   rw[hux];by_cases hjk:j<s.size-K
   ·rw[World.cell?_setCells_out _ _ _ _ _ (fun _ _=>.inl hjk),(hc0 wx hx j hjl).1,List.getElem_append_left (by rw[htl];exact hjk),List.getElem_take,List.getD_eq_getElem?_getD,List.getElem?_eq_getElem (by rw[hsd];exact hjl)]
    rfl
   ·have:=World.cell?_setCells_in w.heap.size ((m.data.toList.drop (m.size-K)).map fun x=>Value.int .u8 (x.toNat:Int)) (s.size-K) wx (fun i hi=>by
     rw[List.length_map,hdl] at hi;exact(hcs wx hx).1 i (by omega)) (j-(s.size-K)) (by rw[List.length_map,hdl];omega)
    rw[show s.size-K+(j-(s.size-K))=j from by omega] at this;rw[this,List.getElem_map,List.getElem_append_right (by rw[htl];omega)];simp only[htl])
  have hL:(m.extract (m.size-K) m.size).data.toList.map (fun x=>Value.int .u8 (x.toNat:Int))=List.take (m.size-(m.size-K)) (List.drop (m.size-K) (List.map (fun x=>Value.int .u8 (x.toNat:Int)) m.data.toList)):=by
   rw[hux,List.map_drop,List.take_of_length_le (by rw[List.length_drop,List.length_map,hmd];exact Nat.le_refl _)]
  rw[hL] at hB1;have hcd:=hcs w1.drew rfl;have hbd:=hB1 w1.drew rfl;have hle:(m.extract (m.size-K) m.size).size<=K:=by omega
  have HE2:=Lib.hid (show ∀vs,Below w.heap.size w (w1.drew.setCells w.heap.size (s.size-K) vs) from fun vs=>Go.below_setCells (Nat.le_refl _) vs _ _ HE.out);have hi0:(0:Int)<=((s.size-K:Nat):Int):=by omega
  have hi1:((s.size-K:Nat):Int)<=(s.size:Int):=by omega
  have hi2:(0:Int)<=((m.size-K:Nat):Int):=by omega
  have hi3:((m.size-K:Nat):Int)<=(m.size:Int):=by omega
  have hneC:s.size-K≠C:=by omega
  have hsk:s.size-(s.size-K)=K:=by omega
  have hz1:∀w,(Go.sizeOf 5).run Tryz.prog w=.ok 1 w:=fun w=>by kernel_rfl
  clear hback hc0 hcs hB1 hL;go_region_law (refine step_copy_string rfl (.tmp 19) (.tmp 25) 86 9 rfl 5 Tryz.underlying86 hz1 w.heap.size (s.size-K) K (C-(s.size-K)) (by simp[go_sem,Act.eval,hneC,hneC.symm,hsk]) (m.extract (m.size-K) m.size) (by simp[go_sem,Act.eval]) hle hcd.1 hcd.2 ?_)
  all_goals
   go_wp2_with fail
   go_ret
   exact⟨rfl,HE2.out _⟩
theorem garb_size (s m:ByteArray):(garbB s m).size=s.size:=by
 have h1:gN s m<=s.size:=by unfold gN;omega
 have h2:gN s m<=m.size:=by unfold gN;omega
 have hsd:s.data.toList.length=s.size:=rfl;have hmd:m.data.toList.length=m.size:=rfl;show(garbL s m).toArray.size=_
 rw[List.size_toArray];unfold garbL;rw[List.length_append,List.length_take,List.length_drop,hsd,hmd];omega
def leftM (p:ByteArray×ByteArray) (cut:Int) (m:ByteArray):ByteArray :=
 if preB p.2 p.1=true then p.1++garbB ((p.2.extract p.1.size p.2.size).extract 0 (min (max cut 0).toNat (p.2.size-p.1.size))) m else if 0<cut then p.2 else p.1
set_option maxHeartbeats 1600000 in
set_option maxRecDepth 100000 in
theorem leftM_any (a b m:ByteArray) (cut:Int) (w:World) (h1:a.size<=1000000) (h2:b.size<=1000000) (hm:m.size<=1000000) :
  Calls Tryz.prog 116 #[fagg a b,.int .i64 cut,.string m] w fun e w'=>e=.returned (.string (leftM (a,b) cut m))/\Below w.heap.size w w':=by
 have mixed:Tryz.prog.follows .mixedOrders=true:=by kernel_rfl
 have hB:=Blk.new w #[.string a,.string b] 133;have hE:=ext_alloc w (.cells #[.string a,.string b] 133);have c0:=fun q:Bw (w.alloc (.cells #[.string a,.string b] 133))=>(hB.ext q.h).cell 0 (v:=.string a) rfl
 have HC:=Lib.hid (fun w=>cutp_any b a w);unfold fagg leftM;dsimp only;rcases hb:preB b a with _|_
 ·rw[hb] at HC
  simp only[Bool.false_eq_true,if_false] at HC ⊢;by_cases hc:0<cut
  ·have hc':cut>0:=hc
   rw[if_pos hc]
   go_enter Tryz.func116, Tryz.ntmps116
   go_wp2_with (go_at_call 160;refine(HC.out _).mono ?_;rintro e1 w1 ⟨rfl,rfl⟩)
   go_ret
   exact⟨rfl,hE⟩
  ·have hc': ¬ cut>0:=hc
   rw[if_neg hc]
   go_enter Tryz.func116, Tryz.ntmps116
   go_wp2_with (go_at_call 160;refine(HC.out _).mono ?_;rintro e1 w1 ⟨rfl,rfl⟩)
   go_ret
   exact⟨rfl,hE⟩
 ·rw[hb] at HC
  simp only[if_true] at HC ⊢;have hz:a.size<=b.size:=by
   have:=congrArg ByteArray.size ((preB_iff b a).1 hb);rw[ByteArray.size_extract] at this;omega
  obtain⟨T,hT⟩:∃T,T=b.extract a.size b.size:=⟨_,rfl⟩
  have hts:T.size=b.size-a.size:=by rw[hT,ByteArray.size_extract];omega
  rw[<-hT,<-hts];rw[<-hT] at HC;have hT9:T.size<=1000000:=by omega
  clear hT hts hb hz h2;have HG:=Lib.hid (show ∀q:Bw (w.alloc (.cells #[.string a,.string b] 133)),Calls Tryz.prog 161 #[.string (T.extract 0 (min (max cut 0).toNat T.size)),.string m] q.to fun e w'=>e=.returned (.string (garbB (T.extract 0 (min (max cut 0).toNat T.size)) m))/\Below q.to.heap.size q.to w' from fun q=>garb_any _ m q.to (by rw[ByteArray.size_extract];omega) hm);generalize hX:T.extract 0 (min (max cut 0).toNat T.size)=X at *
  have q0:(0:Int)<=min (max cut 0) (T.size:Int):=by omega
  have q1:min (max cut 0) (T.size:Int)<=(T.size:Int):=by omega
  have hsl:T.extract 0 (min (max cut 0) (T.size:Int)).toNat=X:=by
   rw[<-hX];congr 1;omega
  have hlen:a.size+(garbB X m).size<=9223372036854775807:=by
   have:X.size<=T.size:=by rw[<-hX,ByteArray.size_extract];omega
   rw[garb_size];omega
  clear hX h1
  go_enter Tryz.func116, Tryz.ntmps116
  go_wp2_with (go_at_call 160;refine(HC.out _).mono ?_;rintro e1 w1 ⟨rfl,rfl⟩)
  refine wp_region_quiet_below (by assumption) (by kernel_rfl) ?_
  repeat (go_big_quiet_step ((go_at_call 161;refine below_of (HG.out _))))
  refine wpQuiet_nil ?_;intro _ hw';obtain⟨q,rfl⟩:=hw';go_wp2_with fail
  go_ret
  exact⟨rfl,hE.trans (q.h.mono hE.size)⟩
theorem fallM_any (a b m:ByteArray) (cut:Int) (w:World) (h1:a.size<=1000000) (h2:b.size<=1000000) (hm:m.size<=1000000) :
  Calls Tryz.prog 66 #[fagg a b,.int .i64 cut,.string m] w fun e w'=>e=.returned (fagg (leftM (a,b) cut m) (leftM (a,b) cut m))/\Below w.heap.size w w':=by
 have HL:=Lib.hid (fun w=>leftM_any a b m cut w h1 h2 hm);unfold fagg at *
 generalize leftM (a,b) cut m=X at *
 have e2:=ext_second w (.cells #[.string a,.string b] 133) (.cells #[.string ⟨#[]⟩,.string ⟨#[]⟩] 133);have hB:=blk_second w (.cells #[.string a,.string b] 133) #[.string ⟨#[]⟩,.string ⟨#[]⟩] 133;have hA:=(Blk.new w #[.string a,.string b] 133).alloc (.cells #[.string ⟨#[]⟩,.string ⟨#[]⟩] 133)
 go_enter Tryz.func66, Tryz.ntmps66
 go_wp2_with (go_at_call 116;refine(HL.out _).mono ?_;rintro e1 w1 ⟨rfl,hb⟩;have hx:=hB.ext hb;have k0:=hx.cell 0 rfl;have k1:=hx.cell 1 rfl;have f0:=hx.fz 0;have f1:=hx.fz 1;have HX:=Lib.hid (And.intro hx hb);clear hx hb)
 refine bodyPost_ret (v:=.agg #[.string X,.string X]) (by exact results_cell1 rfl rfl (((HX.out.1).put 0 (.string X)).put 1 (.string X)) Tryz.underlying133 rfl file_info) (by exact rfl) ?_;refine⟨rfl,?_⟩;exact((e2.trans (HX.out.2.mono e2.size)).setCell (p:=⟨w.heap.size+1,0,none⟩) (by show w.heap.size<=w.heap.size+1;omega) _).setCell (p:=⟨w.heap.size+1,1,none⟩) (by show w.heap.size<=w.heap.size+1;omega) _
end Dk
end Go.Proofs.YtejcdhdfanfkbaaGreat
namespace Go.Proofs.YtejcdhdfanfkbaaGreat
namespace Dk
open Go.RowKit
def offD (D:DS):DS:={ D with off:=true,armed:=0 }
section
variable {w w':World} {S:Nat->Prop} {bd gN gS:Nat} {v:Value} {D:DS}
theorem Fit.offD (h:Fit D):Fit (offD D):=⟨h.wfN,h.wfS,h.wfC,h.cap0,h.cap1,Int.le_refl 0,(by show(0:Int)<=9223372036854775807;omega),h.ops,h.big,h.few,h.run⟩
theorem off_any (h:DiskAt w S bd D):Calls Tryz.prog 24 #[.pointer (some ⟨bd,0,none⟩)] w fun e w'=>e=.returned (.int .i64 0)/\DiskAt w' S bd (offD D)/\Gr S w S w':=by
 have HU:=Lib.hid (up_any h);have hup:upE D=0∨upE D=200:=by unfold upE;split<;>simp
 obtain⟨gN,gS,v,h⟩:=h;have f5:=h.fz 5;have f6:=h.fz 6;have c5:=h.c5;have c6:=h.c6;have HT:=Lib.hid (show Dat ((w.setCell ⟨bd,6,none⟩ (.bool true)).setCell ⟨bd,5,none⟩ (.int .i64 0)) S bd gN gS v (offD D) from by
  refine h.turn (by simp) (fun k _ hk=>?_) ?_ rfl rfl rfl rfl h.fit.offD
  ·rw[Below.heap_setCell _ ⟨bd,5,none⟩ _ k hk,Below.heap_setCell _ ⟨bd,6,none⟩ _ k hk]
  ·exact(h.box.put 6 _).put 5 _)
 have sB:=h.sB;have HG:=Lib.hid ((Gr.setCell (w:=w) sB 6 (.bool true)).trans (Gr.setCell sB 5 (.int .i64 0)));clear h;rcases hup with hup|hup
 all_goals
  rw[hup] at HU;clear hup
  go_enter Tryz.func24, Tryz.ntmps24
  go_wp2_with (go_at_call 61;refine HU.out.mono ?_;rintro e1 w1 ⟨rfl,rfl⟩)
  go_ret
  exact⟨rfl,⟨gN,gS,v,HT.out⟩,HG.out⟩
end
end Dk
end Go.Proofs.YtejcdhdfanfkbaaGreat
namespace Go.Proofs.YtejcdhdfanfkbaaGreat
namespace Dk
open Go.RowKit Sn
def nthI (l:List Int) (k:Nat):Int:=(l[k]?).getD 0
theorem nth_int {A:Option Addr} {n c:Nat} {l:List Int} {w:World} (h:Rd w w.heap.size 1 A n (l.map (Value.int .i64))) (k:Nat) (hk:k<=1000000) (hn:n<=maxLen) :
  Calls Tryz.prog 67 #[.slice A n c,.int .i64 (k:Int)] w fun e w'=>e=.returned (.int .i64 (nthI l k))/\w=w':=by
 have hln:l.length=n:=by simpa using h.len
 by_cases hkn:k<n
 ·obtain⟨ad,x,rfl,hb,hx,hc⟩:=h.int1 hkn
  have hv:nthI l k=x:=by unfold nthI;rw[hx];rfl
  rw[hv];have h1: ¬ (k:Int)>=(n:Int):=by omega
  have h2:(k:Int)<(n:Int):=by omega
  have h3:(0:Int)<=(k:Int):=by omega
  clear h hln hv hx
  go_enter Tryz.func67, Tryz.ntmps67
  go_wp2_with fail
  go_ret
  exact⟨rfl,rfl⟩
 ·have hv:nthI l k=0:=by unfold nthI;rw[List.getElem?_eq_none (by omega)];rfl
  rw[hv];have h1:(k:Int)>=(n:Int):=by omega
  clear h hln hv
  go_enter Tryz.func67, Tryz.ntmps67
  go_wp2_with fail
  go_ret
  exact⟨rfl,rfl⟩
def nthS (l:List ByteArray) (k:Nat):ByteArray:=(l[k]?).getD ⟨#[]⟩
theorem nth_strM {A:Option Addr} {n c:Nat} {l:List ByteArray} {w:World} (h:Rd w w.heap.size 1 A n (l.map Value.string)) (k:Nat) (hk:k<=1000000) (hn:n<=1000000) :
  Calls Tryz.prog 68 #[.slice A n c,.int .i64 (k:Int)] w fun e w'=>e=.returned (.string (nthS l k))/\w=w':=by
 have hln:l.length=n:=by simpa using h.len
 by_cases hkn:k<n
 ·obtain⟨ad,u,rfl,hb,hx,hc⟩:=h.at1 hkn
  rw[List.getElem?_map,List.getElem?_eq_getElem (by omega)] at hx;have hv:nthS l k=l[k]'(by omega):=by unfold nthS;rw[List.getElem?_eq_getElem (by omega)];rfl
  rw[hv];simp only[Option.map_some,Option.some.injEq] at hx;rw[<-hx] at hc;have h1: ¬ (k:Int)>=(n:Int):=by omega
  have h2:(k:Int)<(n:Int):=by omega
  have h3:(0:Int)<=(k:Int):=by omega
  generalize l[k]'(by omega)=X at *
  clear h hln hv hx
  go_enter Tryz.func68, Tryz.ntmps68
  go_wp2_with fail
  go_ret
  exact⟨rfl,rfl⟩
 ·have hv:nthS l k=⟨#[]⟩:=by unfold nthS;rw[List.getElem?_eq_none (by omega)];rfl
  rw[hv];have h1:(k:Int)>=(n:Int):=by omega
  clear h hln hv
  go_enter Tryz.func68, Tryz.ntmps68
  go_wp2_with fail
  go_ret
  exact⟨rfl,rfl⟩
def fstep (lf:Nat->ByteArray×ByteArray->ByteArray) (st:Nat×List (ByteArray×Nat)×(Nat->Option (ByteArray×ByteArray))) (x:ByteArray×Nat):Nat×List (ByteArray×Nat)×(Nat->Option (ByteArray×ByteArray)) :=
 match (lk x.1 st.2.1).bind st.2.2 with
 |none=>st
 |some p=>if p.1=p.2 then st else(st.1+1,pt x.1 x.2 st.2.1,fun j=>if j=x.2 then some (lf st.1 p,lf st.1 p) else st.2.2 j)
theorem leftM_size {p:ByteArray×ByteArray} (cut:Int) (m:ByteArray) (h1:p.1.size<=1000000) (h2:p.2.size<=1000000):(leftM p cut m).size<=1000000:=by
 unfold leftM;split
 ·rename_i h
  have:=congrArg ByteArray.size ((preB_iff p.2 p.1).1 h);rw[ByteArray.size_extract] at this;rw[ByteArray.size_append,garb_size,ByteArray.size_extract,ByteArray.size_extract];omega
 ·split
  ·exact h2
  ·exact h1
def LfOk (lf:Nat->ByteArray×ByteArray->ByteArray):Prop:=∀k p,p.1.size<=1000000->p.2.size<=1000000->(lf k p).size<=1000000
theorem pt_keys (s:ByteArray) (b:Nat):∀{l:List (ByteArray×Nat)},lk s l≠none->(pt s b l).map (·.1)=l.map (·.1)
 | [],h=>absurd rfl h
 |x::l,h=>by
  rw[lk_cons] at h;rw[pt];by_cases hx:x.1=s
  ·rw[if_pos hx,List.map_cons,List.map_cons,hx]
  ·rw[if_neg hx] at h
   rw[if_neg hx,List.map_cons,List.map_cons,pt_keys s b h]
theorem lk_key (s:ByteArray):∀{l:List (ByteArray×Nat)},s∈l.map (·.1)->lk s l≠none
 | [],h=>by simp at h
 |x::l,h=>by
  rw[lk_cons];split
  ·simp
  ·rename_i hx
   rw[List.map_cons,List.mem_cons] at h;exact lk_key s (h.resolve_left fun e=>hx e.symm)
structure Fw (keys:List ByteArray) (st:Nat×List (ByteArray×Nat)×(Nat->Option (ByteArray×ByteArray))):Prop where
 wf:∀x∈st.2.1,st.2.2 x.2≠none
 big:∀b p,st.2.2 b=some p->p.1.size<=1000000/\p.2.size<=1000000
 keys:st.2.1.map (·.1)=keys
theorem Fw.step {keys:List ByteArray} {st:Nat×List (ByteArray×Nat)×(Nat->Option (ByteArray×ByteArray))} (h:Fw keys st) {lf:Nat->ByteArray×ByteArray->ByteArray} (hlf:LfOk lf) (x:ByteArray×Nat) (hx:st.2.2 x.2=none):Fw keys (fstep lf st x):=by
 unfold fstep;split
 ·exact h
 ·rename_i p hp
  split
  ·exact h
  ·obtain⟨b,hb,hp⟩:=Option.bind_eq_some_iff.1 hp
   have hg:=h.big b p hp;refine⟨fun y hy=>?_,fun b' p' hp'=>?_,?_⟩
   ·dsimp only at hy ⊢
    split
    ·simp
    ·rename_i hne
     rcases pt_mem hy with rfl|hy
     ·exact absurd rfl hne
     ·exact h.wf y hy
   ·dsimp only at hp'
    split at hp'
    ·cases hp'
     have:=hlf st.1 p hg.1 hg.2;exact⟨this,this⟩
    ·exact h.big b' p' hp'
   ·exact(pt_keys _ _ (by rw[hb];simp)).trans h.keys
def Fx (lf:Nat->ByteArray×ByteArray->ByteArray):List (ByteArray×Nat)->Nat×List (ByteArray×Nat)×(Nat->Option (ByteArray×ByteArray))->Nat×List (ByteArray×Nat)×(Nat->Option (ByteArray×ByteArray))->Prop
 | [],s,t=>t=s
 |x::l,s,t=>s.2.2 x.2=none/\Fx lf l (fstep lf s x) t
theorem Fx.snoc {lf:Nat->ByteArray×ByteArray->ByteArray} {x:ByteArray×Nat}:∀{l s t},Fx lf l s t->t.2.2 x.2=none->Fx lf (l++[x]) s (fstep lf t x)
 | [],s,t,h,hx=>by
   obtain rfl:t=s:=h;exact⟨hx,rfl⟩
 |y::l,s,t,h,hx=>⟨h.1,Fx.snoc h.2 hx⟩
theorem run_lookupS0 {P:Program} {w:World} {g:Nat} {l:List (ByteArray×Value)} {t k e:TypeId} (ht:P.underlying t=some (.map k e)) (hk:P.underlying k=some .string) {z:Value} (hz:(P.info? e).map (·.zero)=some (some z)) (h:Mp w g l) (s:ByteArray) :
  (Instr.lookup t (.map (some g)) (.string s) false).run P w=.ok ((find1 s l).getD z) w:=by
 obtain⟨es,clock,h1,h2,h3⟩:=h;rcases find_spec h2 h3 s with ⟨f1,f2,f3⟩|⟨j,x,f1,f2,f3,f4⟩
 ·have hf:=(find_none l s f3).1
  have hzr:(zeroValue e).run P w=.ok z w:=by
   unfold zeroValue typeInfo;rcases hi:P.info? e with _|i
   ·rw[hi] at hz;cases hz
   ·rw[hi] at hz
    simp only[Option.map_some,Option.some.injEq] at hz;simp[hi,hz]
  simp[Instr.lookup,run_underlying ht,MapKept.run_getObj_map h1,MapKept.run_checkKey hk (k:=.string s) trivial,MapKept.run_findKey hk f1,Result.andThen,hf,hzr]
 ·have hf:=(find_at l j s x.val (nodup_keys h2 h3) f4).1
  simp[Instr.lookup,run_underlying ht,MapKept.run_getObj_map h1,MapKept.run_checkKey hk (k:=.string s) trivial,MapKept.run_findKey hk f1,Result.andThen,hf]
theorem wpList_lookupS0 {P:Program} {ops:Array Oper} {rest:List Oper} {op:Oper} {a:Act} {w:World} {Q:Exit->Act->World->Prop} {g:Nat} {l:List (ByteArray×Value)} {t k e:TypeId} (ht:P.underlying t=some (.map k e)) (hk:P.underlying k=some .string) {z:Value} (hz:(P.info? e).map (·.zero)=some (some z)) (h:Mp w g l) (s:ByteArray) (x y:Operand)
  (hh:wpList P ops Q rest (a.put op.dst ((find1 s l).getD z)) w)
  (hgd:op.guard=none:=by exact rfl) (ho:op.op=.lookup t x y false:=by exact rfl) (hx:a.eval x=.map (some g):=by exact rfl) (hy:a.eval y=.string s:=by exact rfl):wpList P ops Q (op::rest) a w:=by
 refine wpList_plain hgd fun _ hK=>?_
 unfold Oper.wp execOp;simp only[ho,hx,hy,Sem.run_bind,Result.andThen_ok,run_lookupS0 ht hk hz h s];exact hK _ _ hh
structure Bt (wn:World) (gL:Nat) (lf:Nat->ByteArray×ByteArray->ByteArray) (s0:Nat×List (ByteArray×Nat)×(Nat->Option (ByteArray×ByteArray))) (names:List ByteArray) (j k:Nat) (wx:World):Prop where
 ex:∃(pairs:List (ByteArray×Nat)) (T:Nat->Prop) (L:List (ByteArray×Nat)) (fl:Nat->Option (ByteArray×ByteArray)),pairs.map (·.1)=names.take j/\Fx lf pairs s0 (k,L,fl)/\Mp wx gL (vs L)/\Gr (fun x=>x=gL) wn T wx/\T gL/\(∀b p,fl b=some p->Blk wx b #[.string p.1,.string p.2] 133)/\(∀b p,fl b=some p->s0.2.2 b=some p∨T b)/\Fw (s0.2.1.map (·.1)) (k,L,fl)/\ ∀b,T b->b<wx.heap.size
 le:k<=j
theorem take_succ {α:Type} {l:List α} {j:Nat} {x:α} (h:l[j]? =some x):l.take (j+1)=l.take j++[x]:=by
 rw[List.take_add_one,h];rfl
section
variable {wn wr wz wy:World} {gL:Nat} {lf:Nat->ByteArray×ByteArray->ByteArray} {s0:Nat×List (ByteArray×Nat)×(Nat->Option (ByteArray×ByteArray))} {NS:List ByteArray} {j k b:Nat} {s:ByteArray} {pairs:List (ByteArray×Nat)} {T:Nat->Prop} {L:List (ByteArray×Nat)} {fl:Nat->Option (ByteArray×ByteArray)}
theorem bt_none (q6:∀b p,fl b=some p->Blk wr b #[.string p.1,.string p.2] 133) {g:Nat} (hg:wr.heap.size<=g):fl g=none:=by
 rcases h:fl g with _|p
 ·rfl
 ·exact absurd (q6 g p h).lt (by omega)
theorem bt_keep (q1:pairs.map (·.1)=NS.take j) (q2:Fx lf pairs s0 (k,L,fl)) (q3:Mp wr gL (vs L)) (q4:Gr (fun x=>x=gL) wn T wr) (q5:T gL) (q6:∀b p,fl b=some p->Blk wr b #[.string p.1,.string p.2] 133)
  (q7:∀b p,fl b=some p->s0.2.2 b=some p∨T b) (q8:Fw (s0.2.1.map (·.1)) (k,L,fl)) (q10:∀b,T b->b<wr.heap.size) (q9:k<=j) (hs:NS[j]? =some s) (hb:lk s L=some b) {a:ByteArray} (hp:fl b=some (a,a)) (hy:Below wr.heap.size wr wy):Bt wn gL lf s0 NS (j+1) k wy:=by
 have hst:fstep lf (k,L,fl) (s,wr.heap.size)=(k,L,fl):=by
  unfold fstep;dsimp only;rw[hb];simp[hp]
 refine⟨⟨pairs++[(s,wr.heap.size)],T,L,fl,?_,?_,q3.same (hy.block _ q3.lt),q4.trans (Gr.of_below hy),q5,fun b p h=>(q6 b p h).ext hy,q7,q8,fun b h=>Nat.lt_of_lt_of_le (q10 b h) hy.size⟩,by omega⟩
 ·rw[List.map_append,q1,take_succ hs];rfl
 ·have:=Fx.snoc (x:=(s,wr.heap.size)) q2 (bt_none q6 (Nat.le_refl _))
  rwa [hst] at this
theorem bt_fall (hlf:LfOk lf) (q1:pairs.map (·.1)=NS.take j) (q2:Fx lf pairs s0 (k,L,fl)) (q3:Mp wr gL (vs L)) (q4:Gr (fun x=>x=gL) wn T wr) (q5:T gL) (q6:∀b p,fl b=some p->Blk wr b #[.string p.1,.string p.2] 133)
  (q7:∀b p,fl b=some p->s0.2.2 b=some p∨T b) (q8:Fw (s0.2.1.map (·.1)) (k,L,fl)) (q10:∀b,T b->b<wr.heap.size) (q9:k<=j) (hs:NS[j]? =some s) (hb:lk s L=some b) {a a':ByteArray} (hp:fl b=some (a,a')) (hne:a≠a') {G:Nat} (hG:wr.heap.size<=G)
  (hz:Below wr.heap.size wr wz) (hg:Blk wz G #[.string (lf k (a,a')),.string (lf k (a,a'))] 133) (hm:Mp wy gL (put1 s (ptr G) (vs L))) (hy:wz.grownBy wy (some gL)):Bt wn gL lf s0 NS (j+1) (k+1) wy:=by
 have hst:fstep lf (k,L,fl) (s,G)=(k+1,pt s G L,fun i=>if i=G then some (lf k (a,a'),lf k (a,a')) else fl i):=by
  unfold fstep;dsimp only;rw[hb];simp[hp,hne]
 have hno:=bt_none q6 hG;have hlt:gL<wr.heap.size:=q3.lt;have g1:Gr (fun x=>x=gL) wn (fun i=>T i∨i=G) wy:=by
  refine q4.trans (((Gr.of_below hz).trans (Gr.of_grown hy fun i hi=>by cases hi;exact q5)).more fun i hi=>hi.imp_right (by omega))
 have hfs:=q8.step hlf (s,G) hno;rw[hst] at hfs;refine⟨⟨pairs++[(s,G)],fun i=>T i∨i=G,pt s G L,fun i=>if i=G then some (lf k (a,a'),lf k (a,a')) else fl i,?_,?_,?_,g1,.inl q5,?_,?_,hfs,fun b h=>?_⟩,by omega⟩
 ·rw[List.map_append,q1,take_succ hs];rfl
 ·have:=Fx.snoc (x:=(s,G)) q2 hno
  rwa [hst] at this
 ·rw[<-vs_put];exact hm
 ·intro i p hi
  have hne:∀i,Blk wz i #[.string p.1,.string p.2] 133->i≠gL:=by
   rintro i hi rfl;obtain⟨es,c,h1,-⟩:=q3;have:=(hz.block _ hlt).trans h1;unfold Blk at hi;rw[this] at hi;cases hi
  dsimp only at hi;split at hi
  ·rename_i hiG
   cases hi
   subst hiG;exact hg.grown hy (by intro e;exact hne _ hg (by cases e;rfl))
  ·have:=(q6 i p hi).ext hz
   exact this.grown hy (by intro e;exact hne _ this (by cases e;rfl))
 ·intro i p hi
  dsimp only at hi;split at hi
  ·rename_i hiG
   exact .inr (.inr hiG)
  ·exact(q7 i p hi).imp_right .inl
 ·rcases h with h|rfl
  ·exact Nat.lt_of_lt_of_le (q10 b h) (Nat.le_trans hz.size hy.size)
  ·exact Nat.lt_of_lt_of_le hg.lt hy.size
end
def bootD (D:DS) (L:List (ByteArray×Nat)) (fl:Nat->Option (ByteArray×ByteArray)):DS:={ D with now:=L,safe:=L,chg:=[],fl:=fl,armed:=0,off:=false }
section
variable {wr w1:World} {S T:Nat->Prop} {bd gN gS gL:Nat} {v:Value} {D:DS} {L:List (ByteArray×Nat)} {fl:Nat->Option (ByteArray×ByteArray)} {k:Nat}
theorem Fit.boot {keys:List ByteArray} (h:Fit D) (hks:keys.length<=200) (q8:Fw keys (k,L,fl)):Fit (bootD D L fl):=by
 have hl:L.length<=200:=by
  have h2:=congrArg List.length q8.keys;rw[List.length_map] at h2;exact h2▸hks
 exact⟨q8.wf,q8.wf,fun c hc=>(by cases hc),h.cap0,h.cap1,Int.le_refl 0,(by show(0:Int)<=9223372036854775807;omega),h.ops,q8.big,fun i=>by
  show(apps (List.take i []) L).length<=200
  rw[List.take_nil];exact hl,rfl⟩
def wA (wr:World) (bd gL:Nat):World:=((wr.setCell ⟨bd,0,none⟩ (.map (some gL))).setCell ⟨bd,6,none⟩ (.bool false)).setCell ⟨bd,5,none⟩ (.int .i64 0)
theorem wA_size (wr:World) (bd gL:Nat):(wA wr bd gL).heap.size=wr.heap.size:=by unfold wA;simp
theorem wA_block (wr:World) {bd i:Nat} (gL:Nat) (h:i≠bd):(wA wr bd gL).heap[i]? =wr.heap[i]? :=by
 unfold wA;rw[Below.heap_setCell _ ⟨bd,5,none⟩ _ i h,Below.heap_setCell _ ⟨bd,6,none⟩ _ i h,Below.heap_setCell _ ⟨bd,0,none⟩ _ i h]
theorem wA_box (h:Dat wr S bd gN gS v D):Blk (wA wr bd gL) bd (dcells gL gS v (bootD D L fl)) 120:=((h.box.put 0 _).put 6 _).put 5 _
theorem Dat.boot {keys:List ByteArray} (hks:keys.length<=200) (h:Dat wr S bd gN gS v D) (q3:Mp wr gL (vs L)) (q5:T gL) (q6:∀b p,fl b=some p->Blk wr b #[.string p.1,.string p.2] 133) (q7:∀b p,fl b=some p->D.fl b=some p∨T b) (q8:Fw keys (k,L,fl)) (q10:∀b,T b->b<wr.heap.size)
  (hm:Mp w1 (wA wr bd gL).heap.size (vs L)) (hb:Below (wA wr bd gL).heap.size (wA wr bd gL) w1) (hs:w1.heap.size=(wA wr bd gL).heap.size+1) :
  Dat ((w1.setCell ⟨bd,1,none⟩ (.map (some (wA wr bd gL).heap.size))).setCell ⟨bd,2,none⟩ (.slice none 0 0)) (fun i=>S i∨T i∨i=wr.heap.size) bd gL (wA wr bd gL).heap.size (.slice none 0 0) (bootD D L fl):=by
 have hbx:=(wA_box (gL:=gL) (L:=L) (fl:=fl) h).ext hb;rw[wA_size] at hm hb hs ⊢;have hlt:=h.lt _ h.sB;have hk:∀i,i≠bd->((w1.setCell ⟨bd,1,none⟩ (.map (some wr.heap.size))).setCell ⟨bd,2,none⟩ (.slice none 0 0)).heap[i]? =w1.heap[i]? :=fun i hi=>by
  rw[Below.heap_setCell _ ⟨bd,2,none⟩ _ i hi,Below.heap_setCell _ ⟨bd,1,none⟩ _ i hi]
 have hw:∀i,i≠bd->i<wr.heap.size->((w1.setCell ⟨bd,1,none⟩ (.map (some wr.heap.size))).setCell ⟨bd,2,none⟩ (.slice none 0 0)).heap[i]? =wr.heap[i]? :=fun i hi hl=>by
  rw[hk i hi,hb.block i hl,wA_block wr gL hi]
 have hg:gL≠bd:=by
  rintro rfl;obtain⟨es,c,h1,-⟩:=q3;have:=h.box;unfold Blk at this;rw[h1] at this;cases this
 have hf:∀b p,fl b=some p->b≠bd:=by
  rintro b p hp rfl;have h1:=q6 _ p hp;have h2:=h.box;unfold Blk at h1 h2;rw[h1] at h2;simp at h2
 refine⟨(hbx.put 1 _).put 2 _,q3.same (hw _ hg q3.lt),hm.same (hk _ (by omega)),World.ownsRow_nil _ _ _ _,fun b p hp=>(hw _ (hf b p hp) (q6 b p hp).lt).trans (q6 b p hp),?_,.inl h.sB,.inr (.inl q5),.inr (.inr rfl),fun g hg=>(by cases hg),fun b p hp=>?_,fun b hb'=>?_,h.fit.boot hks q8⟩
 ·have:=q3.lt;omega
 ·rcases q7 b p hp with h1|h1
  ·exact .inl (h.sF b p h1)
  ·exact .inr (.inl h1)
 ·show b<_
  rw[show((w1.setCell ⟨bd,1,none⟩ (.map (some wr.heap.size))).setCell ⟨bd,2,none⟩ (.slice none 0 0)).heap.size=w1.heap.size from by simp];rcases hb' with h1|h1|rfl
  ·have:=h.lt b h1;omega
  ·have:=q10 b h1;omega
  ·omega
end
end Dk
end Go.Proofs.YtejcdhdfanfkbaaGreat
