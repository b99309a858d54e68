/- disk: Boot, whatever changes wait, whatever marks. disk: Arm. FollowFalls: what is left of a disk on which places are saved. varvelaw20.Few of one act. FollowFalls: the disk's calls as contracts. -/
import Derived.Test.YtejcdhdfanfkbaaGreatFf01
import Derived.Test.YtejcdhdfanfkbaaGreatFb07
import Derived.Test.YtejcdhdfanfkbaaGreatFb17
import Derived.Test.YtejcdhdfanfkbaaGreatFb03
import Derived.Deep.LoopGhost
import Derived.Deep.Cut
import Derived.Deep.CutBlock
import Derived.Deep.RegionHeld3
import Derived.Deep.RegionWith
import Derived.Test.YtejcdhdfanfkbaaGreatFb40
import Derived.Test.YtejcdhdfanfkbaaGreatFb15
namespace Go.Proofs.YtejcdhdfanfkbaaGreat
namespace Dk
open Go.RowKit Sn
theorem str_rdB {w:World} {B n k:Nat} {A:Option Addr} {l:List ByteArray} (h:Rd w B 1 A n (l.map Value.string)) (hk:k<n):∃ad x,A=some ad/\ad.block<B/\l[k]? =some x/\w.cell? (ad.add k)=some (.string x):=by
 obtain⟨ad,u,e,hb,hu,hc⟩:=h.at1 hk;rw[List.getElem?_map] at hu;rcases hx:l[k]? with _|x
 ·rw[hx] at hu;cases hu
 ·rw[hx] at hu
  simp only[Option.map_some,Option.some.injEq] at hu;exact⟨ad,x,e,hb,rfl,by rw[hu];exact hc⟩
theorem srt_memB {l:List (ByteArray×Nat)} {s:ByteArray} (h:s∈srt l):s∈l.map (·.1):=by
 unfold srt at h;obtain⟨x,hx,rfl⟩:=List.mem_map.1 h;obtain⟨y,hy,rfl⟩:=List.mem_map.1 ((List.mergeSort_perm _ _).mem_iff.1 hx);exact List.mem_map.2 ⟨y,hy,rfl⟩
theorem bt_start {w4:World} {gL:Nat} {lf:Nat->ByteArray×ByteArray->ByteArray} {D:DS} {L0:List (ByteArray×Nat)} {names:List ByteArray} (hw0:∀x∈L0,D.fl x.2≠none) (hm:Mp w4 gL (vs L0)) (hf:∀b p,D.fl b=some p->Blk w4 b #[.string p.1,.string p.2] 133) (h:Fit D):Bt w4 gL lf (0,L0,D.fl) names 0 0 w4 :=
 ⟨⟨[],fun x=>x=gL,L0,D.fl,by simp,rfl,hm,Gr.refl _ _,rfl,hf,fun _ _ hp=>.inl hp,⟨hw0,h.big,rfl⟩,fun b hb=>by obtain rfl:b=gL:=hb;exact hm.lt⟩,Nat.le_refl _⟩
theorem bel_alB {w wx:World} (h:Below w.heap.size w wx) (o:Obj):Below w.heap.size w (wx.alloc o):=h.trans ((ext_alloc wx o).mono h.size)
instance:Sh (ByteArray×ByteArray×Option Nat) 3 where
 cl:=ch3
 len:=fun _=>rfl
 pos:=by decide
theorem flS_ch:∀l:List (ByteArray×ByteArray×Option Nat),flS l=chl l
 | []=>rfl
 |x::l=>by rw[flS_cons,flS_ch l];rfl
def leftN (dir:Int) (D:DS):Nat:=min (max dir 0).toNat D.chg.length
def leftD (dir:Int) (D:DS):List (ByteArray×Nat):=apps (D.chg.take (leftN dir D)) D.safe
theorem app_wf {fl:Nat->Option (ByteArray×ByteArray)} {c:ByteArray×ByteArray×Option Nat} {l:List (ByteArray×Nat)} (hl:∀x∈l,fl x.2≠none) (hc:∀b,c.2.2=some b->fl b≠none):∀x∈app c l,fl x.2≠none:=fun x hx=>(app_mem hx).elim (fun h=>hc _ h) (hl x)
theorem apps_wf {fl:Nat->Option (ByteArray×ByteArray)}:∀{cs:List (ByteArray×ByteArray×Option Nat)} {l:List (ByteArray×Nat)},(∀x∈l,fl x.2≠none)->(∀c∈cs,∀b,c.2.2=some b->fl b≠none)-> ∀x∈apps cs l,fl x.2≠none
 | [],l,h,_=>h
 |c::cs,l,h,hc=>apps_wf (cs:=cs) (l:=app c l) (app_wf h (hc c (List.mem_cons_self ..))) (fun d hd=>hc d (List.mem_cons_of_mem _ hd))
theorem apps_snoc (cs:List (ByteArray×ByteArray×Option Nat)) (c:ByteArray×ByteArray×Option Nat) (l:List (ByteArray×Nat)):apps (cs++[c]) l=app c (apps cs l):=by unfold apps;rw[List.foldl_append];rfl
section
variable {w w':World} {S:Nat->Prop} {bd gN gS:Nat} {v:Value} {D:DS}
set_option maxHeartbeats 6400000 in
set_option maxRecDepth 100000 in
theorem boot_gen (h:DiskAt w S bd D) (dir:Int) (A:Option Addr) (n c:Nat) (cuts:List Int) (A2:Option Addr) (n2 c2:Nat) (marks:List ByteArray) (hcut:Rd w w.heap.size 1 A n (cuts.map (Value.int .i64))) (hn:n<=maxLen) (hmk:Rd w w.heap.size 1 A2 n2 (marks.map Value.string)) (hn2:n2<=1000000) (hms:∀m∈marks,m.size<=1000000) (hcl:D.chg.length<=1000000) (hk:∀x∈leftD dir D,x.1.size<=maxLen) :
  Calls Tryz.prog 25 #[.pointer (some ⟨bd,0,none⟩),.agg #[.int .i64 dir,.slice A n c,.slice A2 n2 c2]] w fun e w'=>e=.returned (.int .i64 0)/\ ∃(pairs:List (ByteArray×Nat)) (k:Nat) (L:List (ByteArray×Nat)) (fl:Nat->Option (ByteArray×ByteArray)) (S':Nat->Prop),pairs.map (·.1)=srt (leftD dir D)/\Fx (fun k p=>leftM p (nthI cuts k) (nthS marks k)) pairs (0,leftD dir D,D.fl) (k,L,fl)/\DiskAt w' S' bd (bootD D L fl)/\Gr S w S' w':=by
 have mixed:Tryz.prog.follows .mixedOrders=true:=by kernel_rfl
 have hlf:LfOk (fun k p=>leftM p (nthI cuts k) (nthS marks k)):=fun k p h1 h2=>leftM_size _ _ h1 h2
 generalize hlfd:(fun(k:Nat) (p:ByteArray×ByteArray)=>leftM p (nthI cuts k) (nthS marks k))=lf at *
 have HLF:=Lib.hid (And.intro hlf (fun k p=>(congrFun (congrFun hlfd k) p:_=_)));obtain⟨x0,hx0,hx1⟩:∃x0,upE D=x0/\(x0==1)=false:=⟨_,rfl,by unfold upE;split<;>decide⟩
 have HU:=Lib.hid (fun wx (h:DiskAt wx S bd D)=>up_any h);rw[hx0] at HU;clear hx0;have HX:=Lib.hid (show ∀wx,Below w.heap.size w wx->DiskAt wx S bd D from fun wx hb=>h.ext hb);obtain⟨gN,gS,v,h⟩:=h;have HD:=Lib.hid (show ∀wx,Below w.heap.size w wx->Dat wx S bd gN gS v D from fun wx hb=>h.ext hb);obtain⟨Av,cv,rfl,hcv,hcv2⟩:=own_slice h.chg;have HC:=Lib.hid (fun wx (hb:Below w.heap.size w wx)=>clone_any wx (HD.out wx hb).safe);have HB1:=Lib.hid (ext_alloc w (.cells #[.int .i64 dir,.slice A n c,.slice A2 n2 c2] 50));have HK1:=Lib.hid (Blk.new w #[.int .i64 dir,.slice A n c,.slice A2 n2 c2] 50);have HRC:=Lib.hid (show ∀wx,Below w.heap.size w wx->Rd wx wx.heap.size 1 A n (cuts.map (Value.int .i64))/\Rd wx wx.heap.size 1 A2 n2 (marks.map Value.string) from fun wx hb=>⟨(hcut.below hb).more hb.size,(hmk.below hb).more hb.size⟩);have HSF:=Lib.hid (show(leftD dir D).length<=200/\(∀x∈leftD dir D,x.1.size<=maxLen)/\(∀x∈leftD dir D,D.fl x.2≠none) from⟨h.fit.few _,hk,apps_wf h.fit.wfS (fun c hc=>h.fit.wfC c (List.mem_of_mem_take hc))⟩);have HN:=Lib.hid (show min (max dir 0) (D.chg.length:Int)=((leftN dir D:Nat):Int)/\leftN dir D<=D.chg.length from by unfold leftN;omega);have hms2:∀k,(nthS marks k).size<=1000000:=fun k=>by
  unfold nthS;rcases hx:marks[k]? with _|m
  ·show(0:Nat)<=_;omega
  ·exact hms m (List.mem_of_getElem? hx)
 have HMS:=Lib.hid hms2;clear h hcut hmk hms hms2 hk hlf hlfd
 go_enter Tryz.func25, Tryz.ntmps25
 go_upto_region 4 with (first
  |(go_at_call 61;refine(HU.out _ (HX.out _ HB1.out)).mono ?_;rintro e1 w1 ⟨rfl,rfl⟩;have k1:=(HD.out _ HB1.out).c1)
  |(go_at_call 62;refine(HC.out _ HB1.out).mono ?_;rintro e2 w2 ⟨rfl,hm2,hb2,hs2⟩;have HB2:=Lib.hid (ext_trans HB1.out hb2);have HM2:=Lib.hid (And.intro hm2 hs2);have HK2:=Lib.hid (HK1.out.ext hb2);clear k1 hm2 hs2 hb2 HK1 HB1 HC HU HX;have k2:=(HD.out _ HB2.out).c2;have b0:=HK2.out.cell 0 (v:=.int .i64 dir) rfl))
 have hm:=HN.out.1;have i0:(0:Int)<=((leftN dir D:Nat):Int):=by omega
 have i1:((leftN dir D:Nat):Int)<=(cv:Int):=by have:=HN.out.2;omega
 have HRG:=Lib.hid (show ∀wx,Below w.heap.size w wx->Rd wx wx.heap.size 3 Av (leftN dir D) (flS (D.chg.take (leftN dir D))) from fun wx hb=>by
  have h1:=Rd.of_own (HD.out wx hb).chg;have h2:=h1.take (k:=leftN dir D) HN.out.2
  rwa [<-flS_ch,flS_take] at h2)
 have HND:=Lib.hid (show leftD dir D=apps (D.chg.take (leftN dir D)) D.safe from rfl);have HNL:=Lib.hid (show(D.chg.take (leftN dir D)).length=leftN dir D from by rw[List.length_take];have:=HN.out.2;omega);generalize leftN dir D=N at *
 have hNb:N<=1000000:=by have:=HN.out.2;omega
 clear HN;go_region
 go_wp2_with fail
 have hgl:(w.alloc (.cells #[.int .i64 dir,.slice A n c,.slice A2 n2 c2] 50)).heap.size=w.heap.size+1:=by simp
 have HM2b:=Lib.hid (show Mp w2.drew (w.heap.size+1) (vs D.safe)/\w2.drew.heap.size=w.heap.size+1+1 from by rw[<-hgl];exact⟨HM2.out.1.same rfl,HM2.out.2⟩);have HB2b:=Lib.hid (show Below w.heap.size w w2.drew from HB2.out.drew);have HK2b:=Lib.hid (show Blk w2.drew w.heap.size #[.int .i64 dir,.slice A n c,.slice A2 n2 c2] 50 from HK2.out);clear k2 b0 HM2 HB2 HK2 hgl hm i0 i1;generalize w2.drew=w2b at *
 obtain⟨CH,hCH⟩:∃CH,CH=D.chg.take N:=⟨_,rfl⟩
 rw[<-hCH] at HRG HND HNL;clear hCH;have HBG:=Lib.hid (show ∀wx,Gr (fun x=>x=w.heap.size+1) w2b (fun x=>x=w.heap.size+1) wx->Below w.heap.size w wx from fun wx hg=>HB2b.out.trans (hg.below HB2b.out.size (by rintro i rfl;exact Nat.le_succ _)));go_loopw [36] (fun v wr=>∃k:Nat,v=.int .i64 (k:Int)/\k<=N/\Hid (Mp wr (w.heap.size+1) (vs (apps (CH.take k) D.safe))/\Gr (fun x=>x=w.heap.size+1) w2b (fun x=>x=w.heap.size+1) wr)) (fun v _=>N-(intOf v).toNat)
 case atStart=>exact⟨0,by go_num,by omega,Lib.hid ⟨HM2b.out.1,Gr.refl _ _⟩⟩
 case round =>
  obtain⟨k,rfl,hkN,HX⟩:=hrel;by_cases hlt:k<N
  ·obtain⟨ad,x,rfl,hbk,hx,e0,ej⟩:=sl_at (HRG.out wr (HBG.out wr HX.out.2)) hlt
   have HTK:=Lib.hid (show apps (CH.take (k+1)) D.safe=app x (apps (CH.take k) D.safe) from by rw[List.take_add_one,hx];exact apps_snoc _ _ _);obtain⟨xt,xf,xb⟩:=x;have d0:wr.cell? (ad.add (k*3))=some (.string xt):=e0;have d1:wr.cell? ⟨(ad.add (k*3)).block,(ad.add (k*3)).off+1,none⟩=some (.string xf):=ej 0 (by decide);have d2:wr.cell? ⟨(ad.add (k*3)).block,(ad.add (k*3)).off+2,none⟩=some (chv xb):=ej 1 (by decide);have hk2:(0:Int)<=(k:Int):=by omega
   have hk3:(k:Int)<(N:Int):=by omega
   have HAP:=Lib.hid (fun(wx:World) (hm:Mp wx (w.heap.size+1) (vs (apps (CH.take k) D.safe)))=>apply_any hm (xt,xf,xb));unfold cagg at HAP;dsimp only at HAP;have HMG:=Lib.hid (fun(o:Obj)=>show Mp (wr.alloc o) (w.heap.size+1) (vs (apps (CH.take k) D.safe))/\Gr (fun x=>x=w.heap.size+1) w2b (fun x=>x=w.heap.size+1) (wr.alloc o) from⟨HX.out.1.same (Below.heap_alloc wr o _ HX.out.1.lt),HX.out.2.trans (Gr.alloc o)⟩);clear e0 ej hx hbk HX;rcases xb with _|b
   all_goals
    unfold chv at *
    try unfold ptr at *
    go_wp2_with (go_at_call 63;refine(HAP.out _ (HMG.out _).1).mono ?_;rintro e3 w3 ⟨rfl,hm3,hg3⟩;have H3:=Lib.hid (show Mp w3 (w.heap.size+1) (vs (apps (CH.take (k+1)) D.safe))/\Gr (fun x=>x=w.heap.size+1) w2b (fun x=>x=w.heap.size+1) w3 from⟨by rw[HTK.out];exact hm3,(HMG.out _).2.trans (Gr.of_grown hg3 (fun i hi=>by cases hi;rfl))⟩);clear hm3 hg3)
    go_roundw
    case rel=>exact⟨k+1,by go_num,by omega,H3.out⟩
    case measure=>simp[intOf];omega
  ·obtain rfl:k=N:=by omega
   have HM3:=Lib.hid (show Mp wr (w.heap.size+1) (vs (leftD dir D))/\w.heap.size+1<wr.heap.size from by
    have h1:=HX.out.1;rw[List.take_of_length_le (by rw[HNL.out];exact Nat.le_refl _)] at h1;rw[HND.out];exact⟨h1,h1.lt⟩)
   have HB3:=Lib.hid (HBG.out wr HX.out.2);have HK3:=Lib.hid (HX.out.2.blk HK2b.out (by show w.heap.size≠w.heap.size+1;omega));have HNM:=Lib.hid (names_any wr HM3.out.1 (Nat.le_trans HSF.out.1 (by omega)) HSF.out.2.1);clear HX HRG HND HNL HBG HM2b HB2b HK2b;obtain⟨NS,hNS⟩:∃NS,srt (leftD dir D)=NS:=⟨_,rfl⟩
   rw[hNS] at HNM;have HNSe:=Lib.hid hNS;generalize wr=w3 at *
   go_wp2_with (go_at_call 64;refine HNM.out.mono ?_;rintro e4 w4 ⟨vN,rfl,hrow,hb4⟩;obtain⟨AN,cN,rfl,hcN,-⟩:=own_slice hrow;have HN4:=Lib.hid (And.intro hrow hb4);clear hrow hb4 hcN)
   have HB4:=Lib.hid (HB3.out.trans (HN4.out.2.mono HB3.out.size));have HK4:=Lib.hid (HK3.out.ext HN4.out.2);have hlN:NS.length<=1000:=by rw[<-hNS,srt_len];exact Nat.le_trans HSF.out.1 (by omega)
   have H4:Aside (Bt w4 (w.heap.size+1) lf (0,leftD dir D,D.fl) NS 0 0 w4):=bt_start HSF.out.2.2 (HM3.out.1.same (HN4.out.2.block _ HM3.out.1.lt)) (fun b p hp=>(HD.out w4 HB4.out).fl b p hp) (HD.out w4 HB4.out).fit;have HN5:=Lib.hid HM3.out.2;have HR4:=Lib.hid HN4.out.1;clear HNM HN4;have HSM:=Lib.hid (show ∀s,s∈NS->s∈(leftD dir D).map (·.1) from fun s h=>srt_memB (by rw[hNS];exact h));clear hNS;go_loopg [8,47] NS.length (fun kx s8 s47 wr=>∃(j k:Nat),s8=.int .i64 (k:Int)/\s47=.int .i64 (j:Int)/\j<=NS.length/\NS.length-j<=kx/\Aside (Bt w4 (w.heap.size+1) lf (0,leftD dir D,D.fl) NS j k wr))
   case atStart=>exact⟨0,0,rfl,rfl,by omega,by omega,H4⟩
   case round =>
    clear H4;obtain⟨j,k,rfl,rfl,hj,hjx,H⟩:=hrel;by_cases hlt:j<NS.length
    ·obtain⟨⟨pairs,T,L,fl,q1,q2,q3,q4,q5,q6,q7,q8,q10⟩,q9⟩:=H.out
     obtain⟨aN,s,rfl,haN,hs,hcs⟩:=str_rdB (Rd.of_own (own_block HR4.out fun g hg=>q4.block g (World.ownsRow.lt HR4.out g hg).2 (by have:=(World.ownsRow.lt HR4.out g hg).1;have:=HN5.out;show g≠w.heap.size+1;omega))) hlt;obtain⟨b,hb⟩:=Option.ne_none_iff_exists'.1 (lk_key s (l:=L) (by rw[show L.map (·.1)=(leftD dir D).map (·.1) from q8.keys];exact HSM.out s (List.mem_of_getElem? hs)));obtain⟨⟨pa,pb⟩,hp⟩:=Option.ne_none_iff_exists'.1 (q8.wf _ (lk_mem hb));have hpb:=q6 b _ hp;have p0:=hpb.cell 0 (v:=.string pa) rfl;have p1:=hpb.cell 1 (v:=.string pb) rfl;have HLK:=Lib.hid (show find1 s (vs L)=some (.pointer (some ⟨b,0,none⟩)) from by rw[vs_find,hb];rfl);have HMP:=Lib.hid q3;have HLO:=Lib.hid (fun w=>loose_any pa pb w);unfold fagg at HLO;have hlt2:(j:Int)<(NS.length:Int):=by omega
     by_cases hpp:pa=pb
     ·rw[decide_eq_true hpp] at HLO
      subst hpp;have HKP:=Lib.hid (fun wy=>bt_keep (wy:=wy) q1 q2 q3 q4 q5 q6 q7 q8 q10 q9 hs hb hp);clear q1 q2 q3 q4 q5 q6 q7 q8 q10 hs hb hp hpb;go_wp2_with (first
       |(at_lookup;refine wpList_lookupS0 Tryz.underlying117 Tryz.underlying9 ptr_zero HMP.out s _ _ ?_;rw[HLK.out])
       |(go_at_call 65;refine(HLO.out _).mono ?_;rintro e5 w5 ⟨rfl,hb5⟩;have H5:Aside _:=HKP.out w5 hb5;clear hb5))
      go_roundg (NS.length-(j+1))
      case measure=>omega
      case rel=>exact⟨j+1,k,by go_num,by go_num,by omega,by omega,H5⟩
     ·rw[decide_eq_false hpp] at HLO
      have HFL:=Lib.hid (fun wz wy G=>bt_fall HLF.out.1 (wz:=wz) (wy:=wy) (G:=G) q1 q2 q3 q4 q5 q6 q7 q8 q10 q9 hs hb hp hpp);have q4b:=q4;have hbig:=q8.big b _ hp;clear q1 q2 q3 q4 q5 q6 q7 q8 q10 hs hb hp;go_upto_region 15 with (first
       |(at_lookup;refine wpList_lookupS0 Tryz.underlying117 Tryz.underlying9 ptr_zero HMP.out s _ _ ?_;rw[HLK.out])
       |(go_at_call 65;refine(HLO.out _).mono ?_;rintro e5 w5 ⟨rfl,hb5⟩;have HB5:=Lib.hid hb5;clear hb5))
      have HBB5:=Lib.hid (HB4.out.trans ((q4b.below HB4.out.size (by rintro i rfl;exact Nat.le_succ _)).trans (HB5.out.mono (Nat.le_trans HB4.out.size q4b.size))));have HPB5:=Lib.hid (hpb.ext HB5.out);have HKB5:=Lib.hid (show Blk w5 w.heap.size #[.int .i64 dir,.slice A n c,.slice A2 n2 c2] 50 from(q4b.blk HK4.out (by show w.heap.size≠w.heap.size+1;omega)).ext HB5.out);clear hpb q4b p0 p1;have hS:∀wx,Below w5.heap.size w5 wx->(fun wx:World=>(wx.cell? ⟨w.heap.size,1,none⟩=some (.slice A n c)/\wx.cell? ⟨w.heap.size,2,none⟩=some (.slice A2 n2 c2)/\wx.cell? ⟨b,0,none⟩=some (.string pa)/\wx.cell? ⟨b,1,none⟩=some (.string pb))/\Below w5.heap.size w5 wx) wx:=fun wx hb =>
       ⟨⟨(HKB5.out.ext hb).cell 1 rfl,(HKB5.out.ext hb).cell 2 rfl,(HPB5.out.ext hb).cell 0 rfl,(HPB5.out.ext hb).cell 1 rfl⟩,hb⟩
      have HS:=Lib.hid hS;clear hS;have HS0:=Lib.hid (HS.out w5.drew (ext_drew w5));have HS1:=Lib.hid (HS.out (w5.alloc (.cells #[.string ⟨#[]⟩,.string ⟨#[]⟩] 133)).drew (ext_alloc w5 _).drew);have HNI:=Lib.hid (fun(wx:World) (hb:Below w5.heap.size w5 wx)=>nth_int (c:=c) (HRC.out wx (HBB5.out.trans (hb.mono HBB5.out.size))).1 k (by omega) hn);have HNS:=Lib.hid (fun(wx:World) (hb:Below w5.heap.size w5 wx)=>nth_strM (c:=c2) (HRC.out wx (HBB5.out.trans (hb.mono HBB5.out.size))).2 k (by omega) hn2);have HFA:=Lib.hid (fun wx=>fallM_any pa pb (nthS marks k) (nthI cuts k) wx hbig.1 hbig.2 (HMS.out k));rw[show leftM (pa,pb) (nthI cuts k) (nthS marks k)=lf k (pa,pb) from HLF.out.2 k (pa,pb)] at HFA;unfold fagg at HFA;generalize lf k (pa,pb)=X at *
      go_cut [12] from 59 to 75 (fun s12 wx=>∃G,s12=.pointer (some ⟨G,0,none⟩)/\Aside (Blk wx G #[.string X,.string X] 133/\Below w5.heap.size w5 wx/\w5.heap.size<=G))
      case first =>
       go_region_held3 (fun wx=>(wx.cell? ⟨w.heap.size,1,none⟩=some (.slice A n c)/\wx.cell? ⟨w.heap.size,2,none⟩=some (.slice A2 n2 c2)/\wx.cell? ⟨b,0,none⟩=some (.string pa)/\wx.cell? ⟨b,1,none⟩=some (.string pb))/\Below w5.heap.size w5 wx) (with_reducible first|exact HS0.out|exact HS1.out|assumption|exact HS.out _ (bel_alB hS6.2 _)|exact HS.out _ ((hS6.2.setCell (p:=⟨w5.heap.size,0,none⟩) (Nat.le_refl _) _).setCell (p:=⟨w5.heap.size,1,none⟩) (Nat.le_refl _) _)) (first
        |(go_at_call 67;refine(HNI.out _ (by with_reducible first|exact HS0.out.2|exact HS1.out.2)).mono ?_;rintro e7 w7 ⟨rfl,rfl⟩)
        |(go_at_call 68;refine(HNS.out _ (by with_reducible first|exact HS0.out.2|exact HS1.out.2)).mono ?_;rintro e7 w7 ⟨rfl,rfl⟩)
        |(go_at_call 66;refine(HFA.out _).mono ?_;rintro e6 w6 ⟨rfl,hb6⟩;(try (have z6:=Blk.ext (show Blk (w5.alloc (.cells #[.string ⟨#[]⟩,.string ⟨#[]⟩] 133)).drew w5.heap.size #[.string ⟨#[]⟩,.string ⟨#[]⟩] 133 from Blk.new w5 _ _) hb6;have z0:=z6.cell 0 rfl;have z1:=z6.cell 1 rfl;have f0:=z6.fz 0;have f1:=z6.fz 1));have hS6:=HS.out w6 (by with_reducible first|exact HS0.out.2.trans (hb6.mono HS0.out.2.size)|exact HS1.out.2.trans (hb6.mono HS1.out.2.size))))
       all_goals
        go_wp2_with fail
        go_meet
        case rel=>first
         |exact⟨w6.heap.size,rfl,Blk.new w6 _ _,bel_alB hS6.2 _,hS6.2.size⟩
         |exact⟨w5.heap.size,rfl,(z6.put 0 _).put 1 _,(hS6.2.setCell (p:=⟨w5.heap.size,0,none⟩) (Nat.le_refl _) _).setCell (p:=⟨w5.heap.size,1,none⟩) (Nat.le_refl _) _,Nat.le_refl _⟩
      case rest =>
       obtain⟨G,rfl,HG⟩:=hcut;have HZ:=Lib.hid (show ∀wx,Aside (Blk wx G #[.string X,.string X] 133/\Below w5.heap.size w5 wx/\w5.heap.size<=G)->Mp wx (w.heap.size+1) (vs L) from fun wx h=>HMP.out.same ((ext_trans HB5.out h.out.2.1).block _ HMP.out.lt));clear HS HS0 HS1 HNI HNS HFA HRC HLO;go_wp2_with (at_mapUpdate;refine wpList_updateS Tryz.underlying117 Tryz.underlying9 (HZ.out _ HG) s (.pointer (some ⟨G,0,none⟩)) _ _ _ ?_;intro wy hmy hgy hsy;have H6:Aside _:=HFL.out _ wy G (Nat.le_trans HB5.out.size HG.out.2.2) (ext_trans HB5.out HG.out.2.1) HG.out.1 hmy hgy;clear hmy hgy hsy)
       go_roundg (NS.length-(j+1))
       case measure=>omega
       case rel=>exact⟨j+1,k+1,by go_num,by go_num,by omega,by omega,H6⟩
    ·obtain rfl:j=NS.length:=by omega
     obtain⟨⟨pairs,T,L,fl,q1,q2,q3,q4,q5,q6,q7,q8,q10⟩,q9⟩:=H.out;rw[List.take_length] at q1;have hge:∀i,T i->w.heap.size<=i:=q4.ge HB4.out.size (by rintro i rfl;exact Nat.le_succ _);have hbr:Below w.heap.size w wr:=HB4.out.trans (q4.below HB4.out.size (by rintro i rfl;exact Nat.le_succ _));have hD:=HD.out wr hbr;have k0:=hD.c0;have k5:=hD.c5;have k6:=hD.c6;have f0:=hD.fz 0;have f5:=hD.fz 5;have f6:=hD.fz 6;have HST:=Lib.hid (settle_raw (wA_box (gL:=w.heap.size+1) (L:=L) (fl:=fl) hD) (q3.same (wA_block wr (w.heap.size+1) (by rintro e;have:=q3;rw[e] at this;obtain⟨es,c,h1,-⟩:=this;have h2:=hD.box;unfold Blk at h2;rw[h1] at h2;cases h2))));have HFIN:=Lib.hid (show ∀w1,Mp w1 (wA wr bd (w.heap.size+1)).heap.size (vs L)->Below (wA wr bd (w.heap.size+1)).heap.size (wA wr bd (w.heap.size+1)) w1->w1.heap.size=(wA wr bd (w.heap.size+1)).heap.size+1-> ∃(pairs:List (ByteArray×Nat)) (k:Nat) (L:List (ByteArray×Nat)) (fl:Nat->Option (ByteArray×ByteArray)) (S':Nat->Prop),pairs.map (·.1)=NS/\Fx lf pairs (0,leftD dir D,D.fl) (k,L,fl)/\DiskAt ((w1.setCell ⟨bd,1,none⟩ (.map (some (wA wr bd (w.heap.size+1)).heap.size))).setCell ⟨bd,2,none⟩ (.slice none 0 0)) S' bd (bootD D L fl)/\Gr S w S' ((w1.setCell ⟨bd,1,none⟩ (.map (some (wA wr bd (w.heap.size+1)).heap.size))).setCell ⟨bd,2,none⟩ (.slice none 0 0)) from fun w1 e1 e2 e3=>by
      refine⟨pairs,k,L,fl,fun i=>S i∨T i∨i=wr.heap.size,q1,q2,⟨_,_,_,hD.boot (by rw[List.length_map];exact HSF.out.1) q3 q5 q6 q7 q8 q10 e1 e2 e3⟩,?_⟩;refine((Gr.of_below hbr).trans (((Gr.setCell hD.sB 0 _).trans ((Gr.setCell hD.sB 6 _).trans (Gr.setCell hD.sB 5 _))).trans ((Gr.of_below e2).trans ((Gr.setCell hD.sB 1 _).trans (Gr.setCell hD.sB 2 _))))).more fun i hi=>?_
      rcases hi with hi|hi|rfl
      ·exact .inl hi
      ·exact .inr (hge i hi)
      ·exact .inr hbr.size)
     simp only[wA_size] at HST HFIN;unfold wA at HST HFIN;clear q1 q2 q3 q4 q5 q6 q7 q8 q10 hD H;go_wp2_with (go_at_call 69;refine HST.out.mono ?_;rintro e9 w9 ⟨rfl,w8,e1,e2,e3,rfl⟩;have HE:=Lib.hid (HFIN.out w8 e1 e2 e3);clear e1 e2 e3)
     go_ret
     exact⟨rfl,by rw[HNSe.out];exact HE.out⟩
end
end Dk
end Go.Proofs.YtejcdhdfanfkbaaGreat
namespace Go.Proofs.YtejcdhdfanfkbaaGreat
namespace Dk
open Go.RowKit
def armD (n:Int) (D:DS):DS:={ D with armed:=n }
section
variable {w w':World} {S:Nat->Prop} {bd gN gS:Nat} {v:Value} {D:DS}
theorem arm_any (h:DiskAt w S bd D) (ho:D.off=false) (n:Int) (h1:1<=n) (h2:n<=9223372036854775807):Calls Tryz.prog 23 #[.pointer (some ⟨bd,0,none⟩),.int .i64 n] w fun e w'=>e=.returned (.int .i64 0)/\DiskAt w' S bd (armD n D)/\Gr S w S w':=by
 have HU:=Lib.hid (up_any h);have hup:upE D=0:=by unfold upE;rw[ho];rfl
 obtain⟨gN,gS,v,h⟩:=h;have f5:=h.fz 5;have c5:=h.c5;have hn: ¬ n<1:=by omega
 have HT:=Lib.hid (show Dat (w.setCell ⟨bd,5,none⟩ (.int .i64 n)) S bd gN gS v (armD n D) from by
  have hf:=h.fit;refine h.turn (by simp) (fun k _ hk=>?_) ?_ rfl rfl rfl rfl ⟨hf.wfN,hf.wfS,hf.wfC,hf.cap0,hf.cap1,(by show(0:Int)<=n;omega),h2,hf.ops,hf.big,hf.few,hf.run⟩
  ·rw[Below.heap_setCell _ ⟨bd,5,none⟩ _ k hk]
  ·exact h.box.put 5 _)
 have sB:=h.sB;have HG:=Lib.hid (Gr.setCell (w:=w) sB 5 (.int .i64 n));clear h;rw[hup] at HU;clear hup
 go_enter Tryz.func23, Tryz.ntmps23
 go_wp2_with (go_at_call 61;refine HU.out.mono ?_;rintro e1 w1 ⟨rfl,rfl⟩)
 go_ret
 exact⟨rfl,⟨gN,gS,v,HT.out⟩,HG.out⟩
end
end Dk
end Go.Proofs.YtejcdhdfanfkbaaGreat
namespace Go.Proofs.YtejcdhdfanfkbaaGreat
namespace Fo
open Go.RowKit Hd Rd Fm Sn Dk
open Go.Proofs.YtejcdhdfanfkbaaGreat.Op
theorem lk_pt_ne {s t:ByteArray} {b:Nat} (h:t≠s):∀l:List (ByteArray×Nat),lk s (pt t b l)=lk s l
 | []=>by
   rw[show pt t b []=[(t,b)] from rfl,lk_cons,if_neg h]
 |x::l=>by
  unfold pt;split
  ·next e=>rw[lk_cons,lk_cons,if_neg h,if_neg (by rw[e];exact h)]
  ·rw[lk_cons,lk_cons,lk_pt_ne h l]
theorem fx_keep {lf:Nat->ByteArray×ByteArray->ByteArray} {nm:ByteArray} {b:Nat} {T:ByteArray}:∀(pairs:List (ByteArray×Nat)) (s t:Nat×List (ByteArray×Nat)×(Nat->Option (ByteArray×ByteArray))),Fx lf pairs s t->lk nm s.2.1=some b->s.2.2 b=some (T,T)->lk nm t.2.1=some b/\t.2.2 b=some (T,T)
 | [],s,t,h,h1,h2=>by
   obtain rfl:t=s:=h;exact⟨h1,h2⟩
 |x::l,s,t,h,h1,h2=>by
  obtain⟨hx,h⟩:=h;refine fx_keep l (fstep lf s x) t h ?_ ?_
  ·unfold fstep
   split
   ·exact h1
   ·next p hp =>
    split
    ·exact h1
    ·next hne =>
     refine Eq.trans (lk_pt_ne ?_ s.2.1) h1;rintro rfl;rw[h1] at hp;simp only[Option.bind_some] at hp;rw[h2] at hp;cases hp
     exact hne rfl
  ·unfold fstep
   split
   ·exact h2
   ·next p hp =>
    split
    ·exact h2
    ·next hne =>
     have hb:b≠x.2:=by
      rintro rfl;rw[hx] at h2;cases h2
     show(if b=x.2 then _ else s.2.2 b)=_
     rw[if_neg hb,h2]
structure One (T:ByteArray) (b:Nat) (D:DS):Prop where
 off:D.off=false
 now:D.now=[(keptN,b)]
 safe:D.safe=[(keptN,b)]
 chg:D.chg=[]
 fl:D.fl b=some (T,T)
def Left (dir:Int) (T:ByteArray) (D:DS):Prop:=(∀x∈leftD dir D,x.1.size<=maxLen)/\ ∃b,lk keptN (leftD dir D)=some b/\D.fl b=some (T,T)
theorem keptN_small:keptN.size<=maxLen:=by decide
theorem tmpN_small:tmpN.size<=maxLen:=by decide
theorem one_left {T:ByteArray} {b:Nat} {D:DS} (h:One T b D) (dir:Int):Left dir T (offD D):=by
 have e:leftD dir (offD D)=[(keptN,b)]:=by
  unfold leftD;show apps (List.take _ D.chg) D.safe=_
  rw[h.chg,List.take_nil,h.safe];rfl
 refine⟨fun x hx=>?_,b,?_,h.fl⟩
 ·rw[e] at hx
  simp only[List.mem_singleton] at hx;rw[hx];exact keptN_small
 ·rw[e,lk_cons,if_pos rfl]
theorem fell_left {T1 T2:ByteArray} {b b2:Nat} {D:DS} (h:One T1 b D) (hb:D.fl b2=none) (k:Nat) (dir:Int):Left dir T1 (offD (fellD T2 b2 D k))∨Left dir T2 (offD (fellD T2 b2 D k)):=by
 have hne:b≠b2:=by
  rintro rfl;rw[h.fl] at hb;cases hb
 have e0:(⟨#[]⟩:ByteArray)++T2=T2:=by ext1;simp
 have hs:(fellD T2 b2 D k).safe=[(keptN,b)]:=by
  rcases k with _|_|_|_|k<;>exact h.safe
 have hf1:(fellD T2 b2 D k).fl b=some (T1,T1):=by
  rcases k with _|_|_|_|k<;>simp[fellD,deadD,d4,d3,d2,d1,chgD,tick,setF,hne,h.fl]
 have hc:(fellD T2 b2 D k).chg=[(tmpN,⟨#[]⟩,some b2)]∨((fellD T2 b2 D k).chg=[(tmpN,⟨#[]⟩,some b2),(keptN,tmpN,some b2)]/\(fellD T2 b2 D k).fl b2=some (T2,T2)):=by
  rcases k with _|_|_|_|k
  ·left;show D.chg++_=_;rw[h.chg];rfl
  ·left;show D.chg++_=_;rw[h.chg];rfl
  ·left;show D.chg++_=_;rw[h.chg];rfl
  ·right
   refine⟨?_,?_⟩
   ·show(D.chg++_)++_=_;rw[h.chg];rfl
   ·simp[fellD,deadD,d4,d3,d2,d1,chgD,tick,setF,e0]
  ·right
   refine⟨?_,?_⟩
   ·show(D.chg++_)++_=_;rw[h.chg];rfl
   ·simp[fellD,deadD,d4,d3,d2,d1,chgD,tick,setF,e0]
 have key:∀n,apps ((fellD T2 b2 D k).chg.take n) (fellD T2 b2 D k).safe=[(keptN,b)]∨apps ((fellD T2 b2 D k).chg.take n) (fellD T2 b2 D k).safe=[(keptN,b),(tmpN,b2)]∨(apps ((fellD T2 b2 D k).chg.take n) (fellD T2 b2 D k).safe=[(keptN,b2)]/\(fellD T2 b2 D k).fl b2=some (T2,T2)):=by
  intro n;rw[hs];rcases hc with hc|⟨hc,hf⟩
  ·rw[hc]
   rcases n with _|n
   ·left;rfl
   ·right;left;rw[List.take_succ_cons,List.take_nil];rfl
  ·rw[hc]
   rcases n with _|_|n
   ·left;rfl
   ·right;left;rfl
   ·right;right
    refine⟨?_,hf⟩;rw[List.take_succ_cons,List.take_succ_cons,List.take_nil];rfl
 have hE:leftD dir (offD (fellD T2 b2 D k))=apps ((fellD T2 b2 D k).chg.take (leftN dir (offD (fellD T2 b2 D k)))) (fellD T2 b2 D k).safe:=rfl;rcases key (leftN dir (offD (fellD T2 b2 D k))) with e|e|⟨e,hf⟩
 ·left
  refine⟨fun x hx=>?_,b,?_,hf1⟩
  ·rw[hE,e] at hx
   simp only[List.mem_singleton] at hx;rw[hx];exact keptN_small
  ·rw[hE,e,lk_cons,if_pos rfl]
 ·left
  refine⟨fun x hx=>?_,b,?_,hf1⟩
  ·rw[hE,e] at hx
   simp only[List.mem_cons,List.not_mem_nil,or_false] at hx;rcases hx with rfl|rfl
   ·exact keptN_small
   ·exact tmpN_small
  ·rw[hE,e,lk_cons,if_pos rfl]
 ·right
  refine⟨fun x hx=>?_,b2,?_,hf⟩
  ·rw[hE,e] at hx
   simp only[List.mem_singleton] at hx;rw[hx];exact keptN_small
  ·rw[hE,e,lk_cons,if_pos rfl]
theorem left_read {dir:Int} {T:ByteArray} {D:DS} (h:Left dir T D) {lf:Nat->ByteArray×ByteArray->ByteArray} {pairs:List (ByteArray×Nat)} {k:Nat} {L:List (ByteArray×Nat)} {fl:Nat->Option (ByteArray×ByteArray)}
  (hF:Fx lf pairs (0,leftD dir D,D.fl) (k,L,fl)):readP (bootD D L fl) keptN=(T,0):=by
 obtain⟨-,b,h1,h2⟩:=h;obtain⟨q1,q2⟩:=fx_keep pairs _ _ hF h1 h2;unfold readP;rw[show(bootD D L fl).off=false from rfl,show(bootD D L fl).now=L from rfl,show(bootD D L fl).fl=fl from rfl];simp only[Bool.false_eq_true,if_false];rw[q1];have q3:fl b=some (T,T):=q2;simp[q3]
theorem one_save {T1 T2:ByteArray} {b b2:Nat} {D:DS} (h:One T1 b D):One T2 b2 (fsaveD T2 b2 D):=by
 have e0:(⟨#[]⟩:ByteArray)++T2=T2:=by ext1;simp
 have hn:(fsaveD T2 b2 D).now=[(keptN,b2)]:=by
  show app (keptN,tmpN,some b2) (app (tmpN,⟨#[]⟩,some b2) D.now)=_
  rw[h.now];rfl
 exact⟨h.off,hn,hn,rfl,by simp[fsaveD,settleD,d4,d3,d2,d1,chgD,tick,setF,e0]⟩
theorem new_save (cap:Int) (T:ByteArray) (b:Nat):One T b (fsaveD T b (newD cap)):=by
 have e0:(⟨#[]⟩:ByteArray)++T=T:=by ext1;simp
 have hn:(fsaveD T b (newD cap)).now=[(keptN,b)]:=by
  show app (keptN,tmpN,some b) (app (tmpN,⟨#[]⟩,some b) [])=_
  rfl
 exact⟨rfl,hn,hn,rfl,by simp[fsaveD,settleD,d4,d3,d2,d1,chgD,tick,setF,e0]⟩
theorem One.arm {T:ByteArray} {b:Nat} {D:DS} (h:One T b D) (n:Int):One T b (armD n D):=⟨h.off,h.now,h.safe,h.chg,h.fl⟩
end Fo
end Go.Proofs.YtejcdhdfanfkbaaGreat
namespace Go.Proofs.YtejcdhdfanfkbaaGreat
namespace Dk
open Go.RowKit Rd
def few1 (s t:ByteArray) (ms:List ByteArray):Bool:=decide (s.size<=100)&&(decide (t.size<=2000)&&(decide (ms.length<=100)&&ms.all fun m=>decide (m.size<=500)))
theorem few1_s {s t:ByteArray} {ms:List ByteArray} (h:(100:Int)<(s.size:Int)):few1 s t ms=false:=by unfold few1;rw[decide_eq_false (by omega)];rfl
theorem few1_t {s t:ByteArray} {ms:List ByteArray} (h:(2000:Int)<(t.size:Int)):few1 s t ms=false:=by unfold few1;rw[decide_eq_false (p:=t.size<=2000) (by omega)];simp
theorem few1_n {s t:ByteArray} {ms:List ByteArray} (h:(100:Int)<(ms.length:Int)):few1 s t ms=false:=by unfold few1;rw[decide_eq_false (p:=ms.length<=100) (by omega)];simp
theorem few1_m {s t:ByteArray} {ms:List ByteArray} {m:ByteArray} (hm:m∈ms) (h:(500:Int)<(m.size:Int)):few1 s t ms=false:=by
 rw[Bool.eq_false_iff];intro hh;unfold few1 at hh;simp only[Bool.and_eq_true] at hh;have:=of_decide_eq_true (List.all_eq_true.1 hh.2.2.2 m hm);omega
theorem few1_ok {s t:ByteArray} {ms:List ByteArray} (h1: ¬ (100:Int)<(s.size:Int)) (h2: ¬ (2000:Int)<(t.size:Int)) (h3: ¬ (100:Int)<(ms.length:Int)) (h:∀(j:Nat) m,ms[j]? =some m->m.size<=500):few1 s t ms=true:=by
 unfold few1;rw[decide_eq_true (by omega),decide_eq_true (by omega),decide_eq_true (by omega),Bool.true_and,Bool.true_and,Bool.true_and,List.all_eq_true];intro m hm;obtain⟨j,hj⟩:=List.getElem?_of_mem hm;exact decide_eq_true (h j m hj)
theorem few1_of {s t:ByteArray} {ms:List ByteArray} (h:few1 s t ms=true):ms.length<=100/\ ∀m∈ms,m.size<=500:=by
 unfold few1 at h;simp only[Bool.and_eq_true,decide_eq_true_eq] at h;exact⟨h.2.2.1,fun m hm=>of_decide_eq_true (List.all_eq_true.1 h.2.2.2 m hm)⟩
set_option maxHeartbeats 3200000 in
set_option maxRecDepth 100000 in
theorem few20_one (g:Nat) (s t:ByteArray) (A:Option Addr) (n c cc:Nat) (ms:List ByteArray) (w:World)
  (k2:w.cell? ⟨g,2,none⟩=some (.string s)) (k3:w.cell? ⟨g,3,none⟩=some (.string t)) (k6:w.cell? ⟨g,6,none⟩=some (.slice A n c)) (hm:Rd w w.heap.size 1 A n (ms.map Value.string)) (hn:n<=maxLen) :
  Calls Tryz.prog 20 #[.slice (some ⟨g,0,none⟩) 1 cc] w fun e w'=>e=.returned (.bool (few1 s t ms))/\w=w':=by
 have mixed:Tryz.prog.follows .mixedOrders=true:=by kernel_rfl
 have hln:ms.length=n:=by simpa using hm.len
 have hnm:n<=9223372036854775807:=hn;have HM:=Lib.hid hm;clear hm hn
 go_enter Tryz.func20, Tryz.ntmps20
 go_wp2_with fail
 go_loopw [3] (fun v wr=>∃k:Nat,v=.int .i64 (k:Int)/\k<=1/\wr=w/\(k=1->few1 s t ms=true)) (fun v _=>1-(intOf v).toNat)
 case atStart=>exact⟨0,by go_num,by omega,rfl,fun h=>by omega⟩
 case round =>
  obtain⟨k,rfl,hk,rfl,hX⟩:=hrel;by_cases hk0:k=0
  ·subst hk0
   clear hX hk;by_cases hs:(100:Int)<(s.size:Int)
   ·have HF:=Lib.hid (few1_s (t:=t) (ms:=ms) hs)
    go_wp2_with fail
    go_ret
    exact⟨by rw[HF.out];rfl,rfl⟩
   by_cases ht:(2000:Int)<(t.size:Int)
   ·have HF:=Lib.hid (few1_t (s:=s) (ms:=ms) ht)
    go_wp2_with fail
    go_ret
    exact⟨by rw[HF.out];rfl,rfl⟩
   by_cases hnn:(100:Int)<(n:Int)
   ·have HF:=Lib.hid (few1_n (s:=s) (t:=t) (ms:=ms) (by omega))
    go_wp2_with fail
    go_ret
    exact⟨by rw[HF.out];rfl,rfl⟩
   have HOK:=Lib.hid (few1_ok (s:=s) (t:=t) (ms:=ms) hs ht (by omega));go_wp2_with fail
   go_loopw [4] (fun v wo=>∃j:Nat,v=.int .i64 (j:Int)/\j<=n/\wo=wr/\Hid (∀(i:Nat) m,i<j->ms[i]? =some m->m.size<=500)) (fun v _=>n-(intOf v).toNat)
   case atStart=>exact⟨0,by go_num,by omega,rfl,Lib.hid fun i _ hi=>absurd hi (by omega)⟩
   case round =>
    obtain⟨j,rfl,hj,rfl,HX⟩:=hrel;by_cases hjn:j<n
    ·obtain⟨ad,m,rfl,hb,hx,hc⟩:=str_rdB HM.out hjn
     have i1:(0:Int)<=(j:Int):=by omega
     have i2:(j:Int)<(n:Int):=by omega
     have i3:IntKind.i64.wrap ((j:Int)+1)=((j+1:Nat):Int):=by rw[IntKind.wrap_i64];omega
     by_cases hz:(500:Int)<(m.size:Int)
     ·have HF:=Lib.hid (few1_m (s:=s) (t:=t) (List.mem_of_getElem? hx) hz)
      clear hx;go_wp2_with fail
      go_ret
      exact⟨by rw[HF.out];rfl,rfl⟩
     ·have HN:=Lib.hid (show ∀(i:Nat) q,i<j+1->ms[i]? =some q->q.size<=500 from fun i q hi hq=>by
       by_cases e:i=j
       ·subst e;rw[hx] at hq;cases hq;omega
       ·exact HX.out i q (by omega) hq)
      clear hx;go_wp2_with fail
      go_roundw
      ·exact⟨j+1,by first|rfl|rw[i3],by omega,by simp,HN⟩
      ·first|(rw[i3];simp[intOf];omega)|(simp[intOf];omega)
    ·obtain rfl:j=n:=by omega
     have HT:=Lib.hid (HOK.out fun i m hi=>HX.out i m (by have:=(List.getElem?_eq_some_iff.1 hi).1;omega) hi);clear HX;go_wp2_with fail
     go_roundw
     ·exact⟨1,by go_num,by omega,by simp,fun _=>HT.out⟩
     ·simp[intOf]
  ·obtain rfl:k=1:=by omega
   have HT:=Lib.hid (hX rfl);clear hX;go_wp2_with fail
   go_ret
   exact⟨by rw[HT.out];rfl,rfl⟩
end Dk
end Go.Proofs.YtejcdhdfanfkbaaGreat
namespace Go.Proofs.YtejcdhdfanfkbaaGreat
namespace Fo
open Go.RowKit Hd Rd Fm Sn Dk
open Go.Proofs.YtejcdhdfanfkbaaGreat.Op
def fT (l:List Pl):ByteArray:=frB 4 ⟨(pL l).toArray⟩
theorem pL_len2 {l:List Pl} (h:chkP l=0):(pL l).length<=10000:=by
 have hk:l.length<=50/\rowP none l=true:=by
  unfold chkP at h;split at h
  ·assumption
  ·cases h
 have a:=flat_pB1 l (rowP_ok hk.2);have b:=Vi.length_putV_le l.length 8 (by omega);unfold pL;rw[List.length_append];omega
theorem fT_size {l:List Pl} (h:chkP l=0):(fT l).size<=10009:=by
 have:=pL_len2 h;unfold fT;rw[Op.frB_size];have hsz:(⟨(pL l).toArray⟩:ByteArray).size=(pL l).length:=by show(pL l).toArray.size=_;rw[List.size_toArray]
 omega
structure St (w:World) (g:Nat) (cs:Array Value) (bd:Nat) (wx:World) (S:Nat->Prop) (D:DS):Prop where
 dk:DiskAt wx S bd D
 box:Blk wx g cs 52
 out: ¬ S g
 ge:∀k,S k->w.heap.size<=k
 bel:Below w.heap.size w wx
section
variable {w wx wy:World} {g bd:Nat} {cs:Array Value} {S S':Nat->Prop} {D D':DS}
theorem St.below (h:St w g cs bd wx S D) (hb:Below wx.heap.size wx wy):St w g cs bd wy S D:=⟨h.dk.ext hb,h.box.ext hb,h.out,h.ge,h.bel.trans (hb.mono h.bel.size)⟩
theorem St.gr (h:St w g cs bd wx S D) (hd:DiskAt wy S' bd D') (hg:Gr S wx S' wy):St w g cs bd wy S' D' :=
 ⟨hd,hg.blk h.box h.out,hg.out h.box.lt h.out,hg.ge h.bel.size h.ge,h.bel.trans (hg.below h.bel.size h.ge)⟩
theorem save1 (h:DiskAt wx S bd (newD 1000000)) {A:Option Addr} {n c:Nat} {l:List Pl} (hrd:Rd wx wx.heap.size 2 A n (flS l)) (hn:n<=1000000) (hok:chkP l=0) :
  Calls Tryz.prog 22 #[.pointer (some ⟨bd,0,none⟩),.slice A n c] wx fun e w'=>e=.returned (.int .i64 0)/\ ∃b S',DiskAt w' S' bd (fsaveD (fT l) b (newD 1000000))/\Gr S wx S' w':=by
 have hz:=pL_len2 hok;refine(fsave_go h ⟨rfl,rfl⟩ hrd hn hok (fun x hx=>by cases hx) rfl (by decide) (by decide) (by show(_:Int)+9+((0:Nat):Int)<=1000000;omega) hz).mono ?_;rintro e w' ⟨rfl,b,S',-,h2,h3⟩;exact⟨rfl,b,S',h2,h3⟩
theorem save2 {la lb:List Pl} {b1:Nat} {m:Int} (h:DiskAt wx S bd (armD m D)) (h1:One (fT la) b1 D) (hcap:D.cap=1000000) (hm:1<=m) (hla:chkP la=0) {A:Option Addr} {n c:Nat} (hrd:Rd wx wx.heap.size 2 A n (flS lb)) (hn:n<=1000000) (hlb:chkP lb=0) (dir:Int) :
  Calls Tryz.prog 22 #[.pointer (some ⟨bd,0,none⟩),.slice A n c] wx fun e w'=>∃(x:Int) (l:List Pl) (D':DS) (S':Nat->Prop),e=.returned (.int .i64 x)/\((x=0/\l=lb)∨(x=200/\(l=la∨l=lb)))/\Left dir (fT l) (offD D')/\D'.chg.length<=1000000/\DiskAt w' S' bd D'/\Gr S wx S' w':=by
 have hz:=pL_len2 hlb;have hz1:=fT_size hla;have ho:=h1.arm m;have hu:usedD (armD m D)=(fT la).size:=by
  unfold usedD;rw[ho.now];show((((armD m D).fl b1).map (·.2.size)).getD 0)+0=_
  rw[ho.fl];rfl
 have hc:(armD m D).cap=1000000:=hcap;refine(fsaveA_go h ho.off (by unfold Past;show m<=0∨((0:Nat):Int)<m;omega) hrd hn hlb (fun x hx=>?_) ?_ ?_ ?_ ?_ hz).mono ?_
 ·rw[ho.now] at hx
  simp only[List.mem_singleton] at hx;rw[hx];exact keptN_small
 ·rw[ho.now,lk_cons,if_neg (show ¬ keptN=tmpN from fun e=>tmp_kept e.symm)];rfl
 ·rw[ho.now];show 1<200;decide
 ·rw[ho.chg];decide
 ·rw[hu,hc];omega
 ·rintro e w' (⟨rfl,-,b,S',hb,hd,hg⟩|⟨rfl,k,-,b,S',hb,hd,hg⟩)
  ·refine⟨0,lb,_,S',rfl,.inl ⟨rfl,rfl⟩,one_left (one_save ho) dir,?_,hd,hg⟩
   rw[(one_save ho).chg];decide
  ·have hcl:(fellD (frB 4 ⟨(pL lb).toArray⟩) b (armD m D) k).chg.length<=1000000:=by
    have hc0:(armD m D).chg=[]:=ho.chg;rcases k with _|_|_|_|k<;>simp[fellD,deadD,d4,d3,d2,d1,chgD,tick,setF,hc0]
   rcases fell_left (T2:=fT lb) ho hb k dir with q|q
   ·exact⟨200,la,_,S',rfl,.inr ⟨rfl,.inl rfl⟩,q,hcl,hd,hg⟩
   ·exact⟨200,lb,_,S',rfl,.inr ⟨rfl,.inr rfl⟩,q,hcl,hd,hg⟩
theorem boot2 (h:DiskAt wx S bd (offD D)) {T:ByteArray} {dir:Int} (hL:Left dir T (offD D)) (hc:D.chg.length<=1000000) {A:Option Addr} {n c:Nat} {cuts:List Int} {A2:Option Addr} {n2 c2:Nat} {marks:List ByteArray} (hcut:Rd wx wx.heap.size 1 A n (cuts.map (Value.int .i64))) (hn:n<=maxLen) (hmk:Rd wx wx.heap.size 1 A2 n2 (marks.map Value.string)) (hn2:n2<=1000000) (hms:∀m∈marks,m.size<=1000000) :
  Calls Tryz.prog 25 #[.pointer (some ⟨bd,0,none⟩),.agg #[.int .i64 dir,.slice A n c,.slice A2 n2 c2]] wx fun e w'=>e=.returned (.int .i64 0)/\ ∃D2 S',readP D2 keptN=(T,0)/\DiskAt w' S' bd D2/\Gr S wx S' w':=by
 refine(boot_gen h dir A n c cuts A2 n2 c2 marks hcut hn hmk hn2 hms hc hL.1).mono ?_;rintro e w' ⟨rfl,pairs,k,L,fl,S',-,hF,hd,hg⟩;exact⟨rfl,_,S',left_read hL hF,hd,hg⟩
end
end Fo
end Go.Proofs.YtejcdhdfanfkbaaGreat
