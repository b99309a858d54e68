/- turn: begun, laid, Save. -/
import Derived.Test.YtejcdhdfanfkbaaGreatFb22
import Derived.Test.YtejcdhdfanfkbaaGreatFb23
import Derived.Test.YtejcdhdfanfkbaaGreatFb35
import Derived.Test.YtejcdhdfanfkbaaGreatFb29
import Derived.Test.YtejcdhdfanfkbaaGreatFb28
namespace Go.Proofs.YtejcdhdfanfkbaaGreat
namespace Dk
open Go.RowKit Hd Rd Fm Sn Nf
open Go.Proofs.YtejcdhdfanfkbaaGreat.Op
theorem srt_mem (l:List (ByteArray×Nat)) (x:ByteArray):x∈srt l↔ ∃y∈l,y.1=x:=by
 unfold srt;rw[List.mem_map]
 constructor
 ·rintro ⟨b,hb,rfl⟩
  rw[List.mem_mergeSort,List.mem_map] at hb;obtain⟨y,hy,rfl⟩:=hb;exact⟨y,hy,rfl⟩
 ·rintro ⟨y,hy,rfl⟩
  refine⟨y.1.data.toList,?_,rfl⟩;rw[List.mem_mergeSort,List.mem_map];exact⟨y,hy,rfl⟩
theorem lk_none {s:ByteArray}:∀{l:List (ByteArray×Nat)},lk s l=none↔ ∀y∈l,y.1≠s
 | []=>by simp[lk]
 |x::l=>by
  rw[lk_cons];by_cases h:x.1=s
  ·rw[if_pos h]
   constructor
   ·intro e;cases e
   ·intro e;exact absurd h (e x (List.mem_cons_self ..))
  ·rw[if_neg h,lk_none (l:=l)]
   constructor
   ·intro e y hy
    rcases List.mem_cons.1 hy with rfl|hy
    ·exact h
    ·exact e y hy
   ·intro e y hy
    exact e y (List.mem_cons_of_mem _ hy)
section
variable {w w':World} {S:Nat->Prop} {bd gN gS:Nat} {v:Value} {D:DS}
set_option maxHeartbeats 1600000 in
theorem begun_none (h:DiskAt w S bd D) (ho:D.off=false) (hk:∀x∈D.now,x.1.size<=maxLen) (hl:lk tempN D.now=none) :
  Calls Tryz.prog 215 #[.pointer (some ⟨bd,0,none⟩)] w fun e w'=>e=.returned (.int .i64 0)/\Below w.heap.size w w':=by
 have HL:=Lib.hid (list_any h ho hk);have HT:=Lib.hid (fun w=>temp_any (w:=w));have hnot:inT tempN (srt D.now)=false:=inT_no (by
  rw[srt_mem];rintro ⟨y,hy,e⟩;exact lk_none.1 hl y hy e)
 have HC:=Lib.hid (show ∀(A:Option Addr) (n c:Nat) (wx:World),Rd wx wx.heap.size 1 A n (txv (srt D.now))->n<=1000000->Calls Tryz.prog 51 #[.slice A n c,.string tempN] wx fun e w'=>e=.returned (.bool false)/\Below wx.heap.size wx w' from fun A n c wx hr hn=>by
  have:=contains_any A n c (srt D.now) tempN wx hr hn
  rwa [hnot] at this)
 have hfew:D.now.length<=200:=h.fit.now_few;have hsl:(srt D.now).length<=200:=by rw[srt_len];exact hfew
 have HZ:=Lib.hid hsl;clear h ho hk hl hnot hfew hsl;generalize srt D.now=L at *
 go_enter Tryz.func215, Tryz.ntmps215
 go_wp2_with (first
  |(go_at_call 52;refine HL.out.mono ?_;rintro e1 w1 ⟨v1,rfl,hown,hb1⟩;obtain⟨A1,c1,rfl,-,-⟩:=own_slice hown;have HR1:=Lib.hid (Rd.of_own hown);have HB1:=Lib.hid hb1;clear hown hb1)
  |(go_at_call 217;refine(HT.out _).mono ?_;rintro e2 w2 ⟨rfl,rfl⟩)
  |(go_at_call 51;refine(HC.out _ _ _ _ HR1.out (Nat.le_trans HZ.out (by decide))).mono ?_;rintro e3 w3 ⟨rfl,hb3⟩;have HB3:=Lib.hid (HB1.out.trans (hb3.mono HB1.out.size));clear hb3))
 go_ret
 exact⟨rfl,HB3.out⟩
theorem tapp_go (h:DiskAt w S bd D) {cd ct b:Nat} {s text:ByteArray} {p:ByteArray×ByteArray} (hd:Blk w cd #[.pointer (some ⟨bd,0,none⟩)] 57) (ht:Blk w ct #[.string text] 9)
  (ho:D.off=false) (hl:lk s D.now=some b) (hp:D.fl b=some p) (h1:p.2.size+text.size<=1000000) (h2:(text.size:Int)+(usedD D:Int)<=D.cap) :
  Calls Tryz.prog 297 #[.string s,.pointer (some ⟨cd,0,none⟩),.pointer (some ⟨ct,0,none⟩)] w fun e w'=>e=.returned (.int .i64 (opE D))/\ ∃S',DiskAt w' S' bd (opS false (setF b (p.1,p.2++text)) D)/\Gr S w S' w':=by
 have HA:=Lib.hid (append_go h ho hl hp h1 h2);have k0:=hd.cell 0 (v:=.pointer (some ⟨bd,0,none⟩)) rfl;have k1:=ht.cell 0 (v:=.string text) rfl;clear h hd ht ho hl hp h1 h2
 go_enter Tryz.func297, Tryz.ntmps297
 go_wp2_with (go_at_call 55;refine HA.out.mono ?_;rintro e5 w5 ⟨rfl,S5,hD5,hG5⟩;have HD5:=Lib.hid (And.intro hD5 hG5);clear hD5 hG5)
 go_ret
 exact⟨rfl,S5,HD5.out⟩
theorem tappend_any (x y:Value) (hx:x.oneCell'=true) (w:World) {bd:Nat} {text:ByteArray} (e1:x=.pointer (some ⟨bd,0,none⟩)) (e2:y=.string text) :
  Calls Tryz.prog 267 #[x,y] w fun e w'=>e=.returned (.func (.func 297) #[] #[.pointer (some ⟨w.heap.size,0,none⟩),.pointer (some ⟨w.heap.size+1,0,none⟩)])/\w'=(w.alloc (.cells #[x] 57)).alloc (.cells #[y] 9):=by
 subst e1 e2
 go_enter Tryz.func267, Tryz.ntmps267
 go_wp2_with fail
 go_ret
 exact⟨rfl,rfl⟩
set_option maxHeartbeats 3200000 in
set_option maxRecDepth 100000 in
theorem laid_go (h:DiskAt w S bd D) (hc:Calm D) {text:ByteArray} (hl:lk tempN D.now=none) (hn:D.now.length<200) (hch:D.chg.length<=1000000) (hb:text.size<=1000000) (h2:(text.size:Int)+(usedD D:Int)<=D.cap) :
  Calls Tryz.prog 216 #[.pointer (some ⟨bd,0,none⟩),.string text] w fun e w'=>e=.returned (.int .i64 0)/\ ∃b S',D.fl b=none/\DiskAt w' S' bd (d3 tempN text b D)/\Gr S w S' w':=by
 have hfit:=h.fit;have hnk:Nm.check tempN.data.toList=0:=by decide
 have HT:=Lib.hid (fun w=>temp_any (w:=w));have HA:=Lib.hid (tappend_any (.pointer (some ⟨bd,0,none⟩)) (.string text) rfl w rfl rfl);have hS0:∀k,w.heap.size<=k-> ¬ S k:=fun k hk=>by
  obtain⟨gN,gS,v,h⟩:=h;exact h.gt hk
 let R:Nat->DS->Prop:=fun k D'=>match k with
  |0=>D'=D
  |1=>∃b,D.fl b=none/\D'=d1 tempN b D
  |2=>∃b,D.fl b=none/\D'=d2 tempN text b D
  |_=>∃b,D.fl b=none/\D'=d3 tempN text b D
 let w2:=(w.alloc (.cells #[.pointer (some ⟨bd,0,none⟩)] 57)).alloc (.cells #[.string text] 9)
 let fs:List (FuncId×Array Value×Array Value):=[(58,#[.pointer (some ⟨bd,0,none⟩)],#[]),(297,#[],#[.pointer (some ⟨w.heap.size,0,none⟩),.pointer (some ⟨w.heap.size+1,0,none⟩)]),(59,#[.pointer (some ⟨bd,0,none⟩)],#[])]
 have hsz2:w2.heap.size=w.heap.size+1+1:=by show(((w.alloc _).alloc _).heap.size)=_;simp
 have e2:Below w.heap.size w w2:=ext_second w _ _
 let w3:=w2.alloc (.cells (fs.map fv).toArray 110)
 have e3:Below w.heap.size w w3:=e2.trans ((ext_alloc w2 _).mono e2.size);have hB3:Blk w3 w2.heap.size (fs.map fv).toArray 110:=Blk.new w2 _ _;have hD3:Blk w3 w.heap.size #[.pointer (some ⟨bd,0,none⟩)] 57:=((Blk.new w _ _).alloc _).alloc _;have hT3:Blk w3 (w.heap.size+1) #[.string text] 9:=(blk_second _ _ _ _).alloc _
 let J:Nat->World->Prop:=fun k wx=>∃S' D',Gr S w3 S' wx/\DiskAt wx S' bd D'/\R k D'
 have J0:J 0 w3:=⟨S,D,Gr.refl _ _,h.ext e3,rfl⟩
 have HRD:=Lib.hid (show ∀k wx,J k wx->Rd wx wx.heap.size 1 (some ⟨w2.heap.size,0,none⟩) 3 (fs.map fv) from by
  rintro k wx ⟨S',D',g1,-⟩;have:=rd_blk (g1.blk hB3 (hS0 _ (by rw[hsz2];omega)));have h3:fs.length=3:=rfl;simpa[h3] using this)
 have HEN:=Lib.hid (show ∀f∈fs,∀args w,(callFunc f.1 args).run Tryz.prog w=.ok (.enter f.1 args) w from by
  intro f' hf';simp only[fs,List.mem_cons,List.not_mem_nil,or_false] at hf';rcases hf' with rfl|rfl|rfl
  ·exact enters_of Tryz.func58 (by kernel_rfl) rfl
  ·exact enters_of Tryz.func297 (by kernel_rfl) rfl
  ·exact enters_of Tryz.func59 (by kernel_rfl) rfl)
 have HST:=Lib.hid (show ∀k f,fs[k]? =some f-> ∀wx,J k wx->Calls Tryz.prog f.1 (f.2.1++ #[.string tempN]++f.2.2) wx fun e w'=>e=.returned (.int .i64 0)/\J (k+1) w' from by
  intro k f' hf' wx hJ;obtain⟨S',D',g1,hD,hR⟩:=hJ;rcases k with _|_|_|k
  ·simp only[fs,List.getElem?_cons_zero,Option.some.injEq] at hf'
   subst hf';obtain rfl:D'=D:=hR;refine(create_go hD hc.off hnk hl hn hch).mono ?_;rintro e w2 ⟨rfl,b,S2,hbn,hD2,g2⟩;refine⟨by rw[hc.e],S2,_,g1.trans g2,hD2,b,hbn,?_⟩;rw[opS_calm (hc.setF b _)];rfl
  ·simp only[fs,List.getElem?_cons_succ,List.getElem?_cons_zero,Option.some.injEq] at hf'
   subst hf';obtain⟨b,hbn,rfl⟩:∃b,D.fl b=none/\D'=d1 tempN b D:=hR;have c1:Calm (d1 tempN b D):=((hc.setF b _).tick).chg _;refine(tapp_go hD (g1.blk hD3 (hS0 _ (Nat.le_refl _))) (g1.blk hT3 (hS0 _ (Nat.le_succ _))) (b:=b) (p:=(⟨#[]⟩,⟨#[]⟩)) c1.off (by rw[d1_now hl,<-pt_new tempN b _ hl];exact lk_pt tempN b _) (by show(if b=b then _ else _)=_;rw[if_pos rfl]) (by show 0+_<=_;omega) (by rw[d1_used hl hfit hbn];exact h2)).mono ?_;rintro e w2 ⟨rfl,S2,hD2,g2⟩;refine⟨by rw[c1.e],S2,_,g1.trans g2,hD2,b,hbn,?_⟩;rw[opS_calm c1];rfl
  ·simp only[fs,List.getElem?_cons_succ,List.getElem?_cons_zero,Option.some.injEq] at hf'
   subst hf';obtain⟨b,hbn,rfl⟩:∃b,D.fl b=none/\D'=d2 tempN text b D:=hR;have c1:Calm (d2 tempN text b D):=(((hc.setF b _).tick).chg _).tick.setF b _;refine(sync_go hD (b:=b) (p:=(⟨#[]⟩,⟨#[]⟩++text)) c1.off (by show lk tempN (d1 tempN b D).now=_;rw[d1_now hl,<-pt_new tempN b _ hl];exact lk_pt tempN b _) (by show(if b=b then _ else _)=_;rw[if_pos rfl])).mono ?_;rintro e w2 ⟨rfl,S2,hD2,g2⟩;refine⟨by rw[c1.e],S2,_,g1.trans g2,hD2,b,hbn,?_⟩;rw[opS_calm c1];rfl
  ·simp[fs] at hf')
 have HFIN:=Lib.hid (show ∀wx,J 3 wx-> ∃b S',D.fl b=none/\DiskAt wx S' bd (d3 tempN text b D)/\Gr S w S' wx from by
  rintro wx ⟨S',D',g1,hD,b,hbn,rfl⟩;exact⟨b,S',hbn,hD,(Gr.of_below e3).trans g1⟩)
 have HJ0:=Lib.hid J0;have HSZ:=Lib.hid hsz2;have HW3:=Lib.hid (show w2.alloc (.cells #[.func (.func 58) #[.pointer (some ⟨bd,0,none⟩)] #[],.func (.func 297) #[] #[.pointer (some ⟨w.heap.size,0,none⟩),.pointer (some ⟨w.heap.size+1,0,none⟩)],.func (.func 59) #[.pointer (some ⟨bd,0,none⟩)] #[]] 110)=w3 from rfl);have HLF:=Lib.hid (show fs.length=3 from rfl);have HA2:=Lib.hid (show Calls Tryz.prog 267 #[.pointer (some ⟨bd,0,none⟩),.string text] w fun e w'=>e=.returned (.func (.func 297) #[] #[.pointer (some ⟨w.heap.size,0,none⟩),.pointer (some ⟨w.heap.size+1,0,none⟩)])/\w'=w2 from HA.out);clear HA e2 e3 hB3 hD3 hT3 J0 hsz2 hS0 hnk hfit h hc hl hn hch hb h2
 clear_value J w3 fs w2
 clear R
 go_enter Tryz.func216, Tryz.ntmps216
 go_wp2_with (go_at_call 267;refine HA2.out.mono ?_;rintro e1 w1 ⟨rfl,rfl⟩)
 rw[HW3.out];go_loopw [17] (fun v wr=>∃k:Nat,v=.int .i64 k/\k<=3/\Hid (J k wr)) (fun v _=>3-(intOf v).toNat)
 case atStart=>exact⟨0,by go_num,by omega,HJ0.out⟩
 case round =>
  clear HJ0 HW3;obtain⟨k,rfl,hk,HX⟩:=hrel;by_cases hkn:k<3
  ·obtain⟨ad,u,hA,hbk,hx,hc⟩:=(HRD.out k wr HX.out).at1 hkn
   obtain⟨f,hf,rfl⟩:∃f,fs[k]? =some f/\fv f=u:=by
    rw[List.getElem?_map] at hx;rcases hf:fs[k]? with _|f
    ·rw[hf] at hx;cases hx
    ·rw[hf] at hx
     exact⟨f,rfl,by simpa using hx⟩
   have hen2:=HEN.out f (List.mem_of_getElem? hf);have HC:=Lib.hid (HST.out k f hf wr HX.out);obtain⟨fid,first,caps⟩:=f;unfold fv at hc;dsimp only at hc hen2 HC;cases hA
   rw[Addr.add_lit,Nat.zero_add] at hc;clear hx hf hbk;have hki:(k:Int)<3:=by omega
   go_wp2_with (first
    |(go_at_call 217;refine(HT.out _).mono ?_;rintro e2 w2 ⟨rfl,rfl⟩)
    |(go_at_fn fid;refine HC.out.mono ?_;rintro e1 w1 ⟨rfl,hJ⟩;have HJ:=Lib.hid hJ;clear hJ))
   go_roundw
   ·exact⟨k+1,by go_num,by omega,HJ.out⟩
   ·simp[intOf];omega
  ·have e:k=3:=by omega
   subst e;go_wp2_with fail
   go_ret
   exact⟨rfl,HFIN.out _ HX.out⟩
theorem fput_4 (b:ByteArray) (w:World) (h:b.size<=60000):Calls Tryz.prog 50 #[.int .i64 4,.string b] w fun e w'=>e=.returned (.tuple #[.string (frB 4 b),.int .i64 0])/\Below w.heap.size w w':=Fm.put_any 4 b w (by decide) h
def saveD (T:ByteArray) (b:Nat) (D:DS):DS:=settleD (tick (chgD (maniN,tempN,some b) (tick (d3 tempN T b D))))
set_option maxHeartbeats 3200000 in
set_option maxRecDepth 100000 in
theorem Save_go (h:DiskAt w S bd D) (hc:Calm D) {m:Mf} {s:Sl} (hrd:Rd w w.heap.size 9 s.A s.n (flS m.es)) (hsn:s.n<=1000000) (hm:okMf m=true) (hk:∀x∈D.now,x.1.size<=maxLen) (hl:lk tempN D.now=none) (hn:D.now.length<200) (hch:D.chg.length<1000000) (h2:((mfB m).size:Int)+9+(usedD D:Int)<=D.cap) (hz:(mfB m).size<=60000) :
  Calls Tryz.prog 167 #[.pointer (some ⟨bd,0,none⟩),Op.magg m s] w fun e w'=>e=.returned (.int .i64 0)/\ ∃b S',D.fl b=none/\DiskAt w' S' bd (saveD (frB 4 (mfB m)) b D)/\Gr S w S' w':=by
 have HE:=Lib.hid (fun(wx:World) (hb:Below w.heap.size w wx)=>enc_any m s wx ((hrd.below hb).more hb.size) hsn hm);have HP:=Lib.hid (fun wx=>fput_4 (mfB m) wx hz);have hfz:(frB 4 (mfB m)).size=(mfB m).size+9:=Op.frB_size _ _;have HBG:=Lib.hid (fun(wx:World) (hb:Below w.heap.size w wx)=>begun_none (h.ext hb) hc.off hk hl);have HLD:=Lib.hid (fun(wx:World) (hb:Below w.heap.size w wx)=>(laid_go (h.ext hb) hc (text:=frB 4 (mfB m)) hl hn (by omega) (by rw[hfz];omega) (by rw[hfz];push_cast;exact h2)).mono (R':=fun e w'=>e=.returned (.int .i64 0)/\ ∃b S',D.fl b=none/\DiskAt w' S' bd (d3 tempN (frB 4 (mfB m)) b D)/\Gr S w S' w') (by
  rintro e w' ⟨rfl,b,S',q1,q2,q3⟩;exact⟨rfl,b,S',q1,q2,(Gr.of_below hb).trans q3⟩))
 have HT:=Lib.hid (fun w=>temp_any (w:=w));have HM:=Lib.hid (fun w=>manifest_any (w:=w));have HRN:=Lib.hid (show ∀(wx:World) (S':Nat->Prop) (b:Nat),DiskAt wx S' bd (d3 tempN (frB 4 (mfB m)) b D)->Gr S w S' wx->Calls Tryz.prog 57 #[.pointer (some ⟨bd,0,none⟩),.string tempN,.string maniN] wx fun e w'=>e=.returned (.int .i64 0)/\ ∃S2,DiskAt w' S2 bd (chgD (maniN,tempN,some b) (tick (d3 tempN (frB 4 (mfB m)) b D)))/\Gr S w S2 w' from fun wx S' b hD hG=>by
  have c1:Calm (d3 tempN (frB 4 (mfB m)) b D):=((((hc.setF b _).tick).chg _).tick.setF b _).tick.setF b _;refine(rename_go hD (b:=b) c1.off (by decide) (by show lk tempN (d1 tempN b D).now=_;rw[d1_now hl,<-pt_new tempN b _ hl];exact lk_pt tempN b _) (by decide) temp_mani (by show(D.chg++[_]).length<=_;rw[List.length_append];simp only[List.length_cons,List.length_nil];omega)).mono ?_;rintro e w' ⟨rfl,S2,q1,q2⟩;refine⟨by rw[c1.e],S2,?_,hG.trans q2⟩
  rwa [opS_calm c1] at q1)
 have HDS:=Lib.hid (show ∀(wx:World) (S':Nat->Prop) (b:Nat),DiskAt wx S' bd (chgD (maniN,tempN,some b) (tick (d3 tempN (frB 4 (mfB m)) b D)))->Gr S w S' wx->Calls Tryz.prog 60 #[.pointer (some ⟨bd,0,none⟩)] wx fun e w'=>e=.returned (.int .i64 0)/\ ∃S2,DiskAt w' S2 bd (saveD (frB 4 (mfB m)) b D)/\Gr S w S2 w' from fun wx S' b hD hG=>by
  have c1:Calm (chgD (maniN,tempN,some b) (tick (d3 tempN (frB 4 (mfB m)) b D))):=(((((hc.setF b _).tick).chg _).tick.setF b _).tick.setF b _).tick.chg _;refine(dirsync_go hD c1.off).mono ?_;rintro e w' ⟨rfl,S2,q1,q2⟩;refine⟨by rw[c1.e],S2,?_,hG.trans q2⟩
  rwa [opS_calm c1] at q1)
 unfold Op.magg at *
 have HB:=Lib.hid (ext_alloc w (.cells #[.int .i64 m.g,.int .i64 m.x,.int .i64 m.t,.int .i64 m.fl,.slice s.A s.n s.c] 70));have HC:=Lib.hid (Blk.new w #[.int .i64 m.g,.int .i64 m.x,.int .i64 m.t,.int .i64 m.fl,.slice s.A s.n s.c] 70);clear h hc hrd hsn hm hk hl hn hch h2 hz hfz;generalize mfB m=B at *
 generalize frB 4 B=T at *
 obtain⟨g,nx,t,fl,es⟩:=m;obtain⟨A,n,c⟩:=s;dsimp only at *
 go_enter Tryz.func167, Tryz.ntmps167
 go_wp2_with (first
  |(refine wpList_load_row rfl 70 (.tmp 3) rfl w.heap.size #[.int .i64 g,.int .i64 nx,.int .i64 t,.int .i64 fl,.slice A n c] _ (by simp[go_sem,Act.eval]) HC.out Tryz.underlying70 rfl mf_info ?_)
  |(go_at_call 214;refine(HE.out _ HB.out).mono ?_;rintro e1 w1 ⟨rfl,hb1⟩;have HB1:=Lib.hid (HB.out.trans (hb1.mono HB.out.size));clear hb1)
  |(go_at_call 50;refine(HP.out _).mono ?_;rintro e2 w2 ⟨rfl,hb2⟩;have HB2:=Lib.hid (HB1.out.trans (hb2.mono HB1.out.size));clear hb2)
  |(go_at_call 215;refine(HBG.out _ HB2.out).mono ?_;rintro e3 w3 ⟨rfl,hb3⟩;have HB3:=Lib.hid (HB2.out.trans (hb3.mono HB2.out.size));clear hb3)
  |(go_at_call 216;refine(HLD.out _ HB3.out).mono ?_;rintro e4 w4 ⟨rfl,b,S4,hbn,hD4,hG4⟩;have HD4:=Lib.hid hD4;have HG4:=Lib.hid hG4;have HBN:=Lib.hid hbn;clear hD4 hG4 hbn)
  |(go_at_call 217;refine(HT.out _).mono ?_;rintro e5 w5 ⟨rfl,rfl⟩)
  |(go_at_call 163;refine(HM.out _).mono ?_;rintro e6 w6 ⟨rfl,rfl⟩)
  |(go_at_call 57;refine(HRN.out _ _ _ HD4.out HG4.out).mono ?_;rintro e7 w7 ⟨rfl,S7,hD7,hG7⟩;have HD7:=Lib.hid hD7;have HG7:=Lib.hid hG7;clear hD7 hG7)
  |(go_at_call 60;refine(HDS.out _ _ _ HD7.out HG7.out).mono ?_;rintro e8 w8 ⟨rfl,S8,hD8,hG8⟩;have HD8:=Lib.hid hD8;have HG8:=Lib.hid hG8;clear hD8 hG8))
 go_ret
 exact⟨rfl,b,S8,HBN.out,HD8.out,HG8.out⟩
end
end Dk
end Go.Proofs.YtejcdhdfanfkbaaGreat
