/- follow.Decode: whatever bytes. varvelaw42: few, own, same. -/
import Derived.Test.YtejcdhdfanfkbaaGreatFb13
import Derived.Test.YtejcdhdfanfkbaaGreatFb14
import Derived.Deep.RegionHeld3
namespace Go.Proofs.YtejcdhdfanfkbaaGreat
namespace Fo
open Go.RowKit Rd Dk Vi Tk
open Go.Proofs.YtejcdhdfanfkbaaGreat.Rf
theorem rdP_few {l:List UInt8} (h:(rdP l).1=0):(rdP l).2.length<=50:=by
 unfold rdP at h ⊢;split at h
 ·contradiction
 rename_i k1
 rw[if_neg k1];split at h
 ·cases h
 rename_i k2
 rw[if_neg k2];split at h
 ·contradiction
 rename_i k3
 rw[if_neg k3];split at h
 ·cases h
 rename_i k4
 rw[if_neg k4];have q2:=tkN_is _ _ (Decidable.not_not.1 k3);dsimp only;rw[q2.2];omega
theorem store_val2 {P:Program} {w:World} {a:Addr} {v old:Value} (h1:v.oneCell'=true) (hc:w.cell? a=some old) (hf:w.frozen? a=false):(store a v).run P w=.ok () (w.setCell a v):=by
 rw[run_store P w a v _ h1,hc];simp[hf]
set_option maxHeartbeats 6400000 in
set_option maxRecDepth 100000 in
theorem fcaught (s:ByteArray) (hs:s.size<=1000000) (w wx:World) (b bt bn bo:Nat) (hTa:Ta wx b s 0) (hVn:Var wx bn 98 (.func (.func 36) #[.pointer (some ⟨b,0,none⟩)] #[])) (hVt:Var wx bt 96 (.pointer (some ⟨b,0,none⟩))) (hVo:Var wx bo 28 (.slice none 0 0)) (hne:w.heap.size<=b/\b<bt/\bt<bn/\bn<bo) :
  Calls Tryz.prog 37 #[.func (.func 38) #[] #[.pointer (some ⟨bn,0,none⟩),.pointer (some ⟨bo,0,none⟩),.pointer (some ⟨bt,0,none⟩)]] wx fun e w'=>Keep wx w' [b,bo] /\
   (((rdP s.data.toList).1=0/\e=.returned (.tuple #[.int .i64 0,.int .i64 0])/\ ∃v,Var w' bo 28 v/\w'.ownsRow wx.heap.size 82 2 v (rdP s.data.toList).2.length (flS (rdP s.data.toList).2)) ∨
     ((rdP s.data.toList).1≠0/\ ∃p:Int,e=.returned (.tuple #[.int .i64 (rdP s.data.toList).1,.int .i64 p]))):=by
 have hbs:=hVo.lt;have hB:Below wx.heap.size wx (wC wx):=wC_keep wx;have hsz:(wC wx).heap.size=wx.heap.size+2:=by unfold wC;simp
 have hn:Dn (wC wx) b bn bo bt:=⟨by omega,by omega,by omega,by omega,by omega,by omega⟩
 have hd:Dq (wC wx) b bn bo bt s 0 [] (.slice none 0 0) (wC wx):=⟨(hB.block b hTa.lt).trans hTa,hVt.below hB hVt.lt,hVo.below hB hVo.lt,World.ownsRow_nil _ _ _ _,Keep.refl _ _,by simp⟩
 have hc:=fdec1_any s (wC wx) b bn bo bt hn (hVn.below hB hVn.lt) hd hs;have hk:∀w' w2,Keep (wC wx) w2 [b,bo]->Keep w2 w' [wx.heap.size,wx.heap.size+1]->Keep wx w' [b,bo]:=fun w' w2 q2 q3 =>
  ⟨q3.os.trans (q2.os.trans hB.os),q3.tape.trans (q2.tape.trans hB.tape),q3.output.trans (q2.output.trans hB.output),Nat.le_trans hB.size (Nat.le_trans q2.size q3.size),fun k hk hl =>
   (q3.blk k (by have:=q2.size;have:=hB.size;omega) (by simp;omega)).trans ((q2.blk k (by have:=hB.size;omega) hl).trans (hB.block k hk))⟩
 have hG:∀w',Keep (wC wx) w' [b,bo]->Var w' wx.heap.size 25 (.int .i64 0)/\Var w' (wx.heap.size+1) 3 (.int .i64 0):=fun w' k=>by
  obtain⟨v1,v2⟩:=wC_vars wx;exact⟨k.var v1 (by simp;omega),k.var v2 (by simp;omega)⟩
 by_cases hz:(rdP s.data.toList).1=0
 ·refine(caught_ok 38 wx #[.pointer (some ⟨bn,0,none⟩),.pointer (some ⟨bo,0,none⟩),.pointer (some ⟨bt,0,none⟩)] (fun w'=>Keep (wC wx) w' [b,bo]/\ ∃v,Var w' bo 28 v/\w'.ownsRow (wC wx).heap.size 82 2 v (rdP s.data.toList).2.length (flS (rdP s.data.toList).2)) (fun w' h=>hG w' h.1) (enters_of Tryz.func38 (by kernel_rfl) rfl) ?_).mono ?_
  ·refine hc.mono ?_
   rintro e w' ⟨k,⟨-,rfl,h⟩|⟨h,-⟩⟩
   ·exact⟨rfl,k,h⟩
   ·exact absurd hz h
  ·rintro e w' ⟨rfl,w2,⟨q2,v,hv,ho⟩,q3⟩
   have hlt:=World.ownsRow.lt ho;refine⟨hk w' w2 q2 q3,.inl ⟨hz,rfl,v,q3.var hv (by simp;omega),own_lower (Dk.own_block ho fun g hg=>q3.blk g (hlt g hg).2 ?_) (by omega)⟩⟩;have:=(hlt g hg).1;simp;omega
 ·refine(caughtF_no 38 wx #[.pointer (some ⟨bn,0,none⟩),.pointer (some ⟨bo,0,none⟩),.pointer (some ⟨bt,0,none⟩)] (rdP s.data.toList).1 (fun w'=>Keep (wC wx) w' [b,bo]) hG (enters_of Tryz.func38 (by kernel_rfl) rfl) ?_).mono ?_
  ·refine hc.mono ?_
   rintro e w' ⟨k,⟨h,-⟩|⟨-,p,rfl⟩⟩
   ·exact absurd h hz
   ·exact⟨⟨p,rfl⟩,k⟩
  ·rintro e w' ⟨⟨p,rfl⟩,w2,q2,q3⟩
   exact⟨hk w' w2 q2 q3,.inr ⟨hz,p,rfl⟩⟩
set_option maxHeartbeats 6400000 in
set_option maxRecDepth 100000 in
theorem fdec_any (s:ByteArray) (hs:s.size<=1000000) (w:World) :
  Calls Tryz.prog 11 #[.string s] w fun e w'=>(∃A c,e=.returned (.tuple #[.slice A (deP s.data.toList).2.length c,.int .i64 (deP s.data.toList).1])/\w'.ownsRow w.heap.size 82 2 (.slice A (deP s.data.toList).2.length c) (deP s.data.toList).2.length (flS (deP s.data.toList).2))/\Below w.heap.size w w':=by
 have mixed:Tryz.prog.follows .mixedOrders=true:=by kernel_rfl
 have HTN:=Lib.hid (fun wx=>takeNew_any s wx);have HCA:=Lib.hid (fun wx b bt bn bo h1 h2 h3 h4 h5=>fcaught s hs w wx b bt bn bo h1 h2 h3 h4 h5);have HCK:=Lib.hid (fun(A:Option Addr) (n c:Nat) (l:List Pl) (wx:World) (hr:Rd wx wx.heap.size 2 A n (flS l)) (hn:n<=1000000)=>fcheck_any A n c l wx hr hn);clear hs
 go_enter Tryz.func11, Tryz.ntmps11
 go_upto_region 2 with (go_at_call 35;refine(HTN.out _).mono ?_;rintro e1 w1 ⟨rfl,ht1,hb1⟩;have HT1:=Lib.hid (And.intro ht1 hb1);clear ht1 hb1)
 have hw1:w.heap.size<w1.heap.size:=HT1.out.1.lt;have HV2:=Lib.hid (Var.new w1 96 (.pointer (some ⟨w.heap.size,0,none⟩)));have HT2:=Lib.hid (show Ta (w1.alloc (.cells #[.pointer (some ⟨w.heap.size,0,none⟩)] 96)) w.heap.size s 0 from(Below.heap_alloc w1 _ _ hw1).trans HT1.out.1);have HB2:=Lib.hid (HT1.out.2.trans ((ext_alloc w1 (.cells #[.pointer (some ⟨w.heap.size,0,none⟩)] 96)).mono HT1.out.2.size));have HO2:=Lib.hid (And.intro (Nat.le_refl w.heap.size) hw1);clear hw1 HT1 HTN;generalize w1.alloc (.cells #[.pointer (some ⟨w.heap.size,0,none⟩)] 96)=w2 at *
 generalize w1.heap.size=bt at *
 have c2:=HV2.out.cell;have vF:=Var.new w2 98 .nilFunc;have d1:=store_val2 (P:=Tryz.prog) (v:=.func (.func 36) #[.pointer (some ⟨w.heap.size,0,none⟩)] #[]) rfl vF.cell vF.frozen;have hne1:=HT2.out.lt;have hne2:=HV2.out.lt;clear vF;go_upto_region 3 with fail
 have hb3:=ext_alloc w2 (.cells #[.func (.func 36) #[.pointer (some ⟨w.heap.size,0,none⟩)] #[]] 98);have HV3:=Lib.hid (Var.new w2 98 (.func (.func 36) #[.pointer (some ⟨w.heap.size,0,none⟩)] #[]));have HT3:=Lib.hid (show Ta (w2.alloc (.cells #[.func (.func 36) #[.pointer (some ⟨w.heap.size,0,none⟩)] #[]] 98)) w.heap.size s 0 from(hb3.block _ hne1).trans HT2.out);have HU3:=Lib.hid (HV2.out.below hb3 hne2);have HB3:=Lib.hid (HB2.out.trans (hb3.mono HB2.out.size));have HO3:=Lib.hid (show w.heap.size<=w.heap.size/\w.heap.size<bt/\bt<w2.heap.size from⟨Nat.le_refl _,HO2.out.2,hne2⟩);clear c2 HV2 HT2 HB2 HO2 d1 hb3 hne1 hne2;generalize w2.alloc (.cells #[.func (.func 36) #[.pointer (some ⟨w.heap.size,0,none⟩)] #[]] 98)=w3 at *
 generalize w2.heap.size=bn at *
 go_upto_region 4 with fail
 have hb4:=ext_alloc w3 (.cells #[.slice none 0 0] 28);have HV4:=Lib.hid (HV3.out.below hb4 HV3.out.lt);have HT4:=Lib.hid (show Ta (w3.alloc (.cells #[.slice none 0 0] 28)) w.heap.size s 0 from(hb4.block _ HT3.out.lt).trans HT3.out);have HU4:=Lib.hid (HU3.out.below hb4 HU3.out.lt);have HW4:=Lib.hid (Var.new w3 28 (.slice none 0 0));have HB4:=Lib.hid (HB3.out.trans (hb4.mono HB3.out.size));have HO4:=Lib.hid (show w.heap.size<=w.heap.size/\w.heap.size<bt/\bt<bn/\bn<w3.heap.size from⟨HO3.out.1,HO3.out.2.1,HO3.out.2.2,HV3.out.lt⟩);clear HV3 HT3 HU3 HB3 HO3 hb4;generalize w3.alloc (.cells #[.slice none 0 0] 28)=w4 at *
 generalize w3.heap.size=bo at *
 have HC4:=Lib.hid (HCA.out w4 w.heap.size bt bn bo HT4.out HV4.out HU4.out HW4.out HO4.out);have hfew:=fun h=>rdP_few (l:=s.data.toList) h
 obtain⟨r,hr⟩:∃r,rdP s.data.toList=r:=⟨_,rfl⟩
 rw[hr] at hfew;have hde:deP s.data.toList=if r.1≠0 then(r.1,[]) else if chkP r.2≠0 then(180,[]) else(0,r.2):=by unfold deP;rw[hr]
 rw[hr] at HC4;clear HCA HT4 HV4 HU4 HW4 hr;obtain⟨x,l⟩:=r;dsimp only at hde HC4 hfew;by_cases hz:x=0
 ·subst hz
  rw[if_neg (by simp)] at hde;have HDE:=Lib.hid hde;clear hde;go_upto_region 7 with (go_at_call 37;refine HC4.out.mono ?_;rintro e5 w5 ⟨k5,⟨-,rfl,v,hv5,ho5⟩|⟨h,-⟩⟩;rotate_left;exact absurd rfl h;have HK5:=Lib.hid (HB4.out.trans (k5.below HB4.out.size (by have:=HO4.out;simp;omega)));have HV5:=Lib.hid hv5;have HW5:=Lib.hid (own_lower ho5 HB4.out.size);clear k5 hv5 ho5)
  obtain⟨A5,c5,rfl,-,hm5⟩:=own_slice HW5.out;have cv:=HV5.out.cell;have HC6:=Lib.hid (HCK.out A5 l.length c5 l w5 (Rd.of_own HW5.out) (by have:=hfew trivial;omega));rcases chk_cases l with hc|hc
  ·rw[hc] at HC6
   have HDF:=Lib.hid (show deP s.data.toList=(0,l) from by rw[HDE.out,if_neg (by rw[hc];simp)]);clear hc hfew HC4 HCK;go_wp2_with (go_at_call 15;refine HC6.out.mono ?_;rintro e6 w6 ⟨rfl,hb6⟩;have HB6:=Lib.hid (HK5.out.trans (hb6.mono HK5.out.size));have HV6:=Lib.hid (HV5.out.below hb6 HV5.out.lt);have HW6:=Lib.hid (Dk.own_block HW5.out fun g hg=>hb6.block g (World.ownsRow.lt HW5.out g hg).2);have cv:=HV6.out.cell;clear hb6)
   go_ret2
   rw[HDF.out];exact⟨⟨A5,c5,rfl,HW6.out⟩,HB6.out⟩
  ·rw[hc] at HC6
   have HDF:=Lib.hid (show deP s.data.toList=(180,[]) from by rw[HDE.out,if_pos (by rw[hc];simp)]);clear hc hfew HC4 HCK;go_wp2_with (go_at_call 15;refine HC6.out.mono ?_;rintro e6 w6 ⟨rfl,hb6⟩;have HB6:=Lib.hid (HK5.out.trans (hb6.mono HK5.out.size));clear hb6)
   go_ret2
   rw[HDF.out];exact⟨⟨none,0,rfl,World.ownsRow_nil _ _ _ _⟩,HB6.out⟩
 ·rw[if_pos hz] at hde
  have HDF:=Lib.hid hde;have hxz:(x==0)=false:=by rw[beq_eq_false_iff_ne];exact hz
  have hxz2:(x != 0)=true:=by rw[bne_iff_ne];exact hz
  have HZ:=Lib.hid hz;clear hde hfew hz HCK;go_wp2_with (go_at_call 37;refine HC4.out.mono ?_;rintro e5 w5 ⟨k5,⟨h,-⟩|⟨-,p,rfl⟩⟩;exact absurd h HZ.out;have HK5:=Lib.hid (HB4.out.trans (k5.below HB4.out.size (by have:=HO4.out;simp;omega)));clear k5)
  go_ret2
  rw[HDF.out];exact⟨⟨none,0,rfl,World.ownsRow_nil _ _ _ _⟩,HK5.out⟩
end Fo
end Go.Proofs.YtejcdhdfanfkbaaGreat
namespace Go.Proofs.YtejcdhdfanfkbaaGreat
namespace Fo
open Go.RowKit Rd Dk Vi Tk
open Go.Proofs.YtejcdhdfanfkbaaGreat.Rf
def fewP (l:List Pl):Bool:=decide (l.length<=60)&&l.all fun p=>decide (p.s.size<=100)
set_option maxHeartbeats 3200000 in
set_option maxRecDepth 100000 in
theorem few_any (A:Option Addr) (n c:Nat) (l:List Pl) (w:World) (hrd:Rd w w.heap.size 2 A n (flS l)) (hc:n<=maxLen) :
  Calls Tryz.prog 6 #[.slice A n c] w fun e w'=>e=.returned (.bool (fewP l))/\Below w.heap.size w w':=by
 have mixed:Tryz.prog.follows .mixedOrders=true:=by kernel_rfl
 have hln:=rdS_len hrd;by_cases hbig:(60:Int)<(n:Int)
 ·have HE:=Lib.hid (show fewP l=false from by unfold fewP;rw[decide_eq_false (by omega)];rfl)
  clear hrd hln
  go_enter Tryz.func6, Tryz.ntmps6
  go_wp2_with fail
  go_ret
  exact⟨by rw[HE.out];rfl,Below.refl _ _⟩
 have HE:=Lib.hid (show fewP l=l.all fun p=>decide (p.s.size<=100) from by unfold fewP;rw[decide_eq_true (by omega)];rfl);have HR:=Lib.hid hrd;have HLN:=Lib.hid hln;have hn60:n<=60:=by omega
 clear hrd hln hc
 go_enter Tryz.func6, Tryz.ntmps6
 go_wp2_with fail
 go_loopw [3] (fun v wr=>∃k:Nat,v=.int .i64 (k:Int)/\k<=n/\wr=w/\Hid (∀j p,j<k->l[j]? =some p->p.s.size<=100)) (fun v _=>n-(intOf v).toNat)
 case atStart=>exact⟨0,by go_num,by omega,rfl,Lib.hid fun j _ hj=>absurd hj (by omega)⟩
 case round =>
  obtain⟨k,rfl,hk,rfl,HX⟩:=hrel;by_cases hkn:k<n
  ·obtain⟨ad,p,rfl,hbk,hx,e0,-⟩:=sl_at HR.out hkn
   have c0:wr.cell? (ad.add (k*2))=some (.string p.s):=e0;clear e0;have i1:(0:Int)<=(k:Int):=by omega
   have i2:(k:Int)<(n:Int):=by omega
   have i3:IntKind.i64.wrap ((k:Int)+1)=((k+1:Nat):Int):=by rw[IntKind.wrap_i64];omega
   by_cases hs:(100:Int)<(p.s.size:Int)
   ·have HF:=Lib.hid (show fewP l=false from by
     rw[HE.out,Bool.eq_false_iff];intro h;have:=of_decide_eq_true (List.all_eq_true.1 h p (List.mem_of_getElem? hx));omega)
    clear hx;go_wp2_with fail
    go_ret
    exact⟨by rw[HF.out];rfl,Below.refl _ _⟩
   ·have HN:=Lib.hid (show ∀j q,j<k+1->l[j]? =some q->q.s.size<=100 from fun j q hj hq=>by
     by_cases e:j=k
     ·subst e;rw[hx] at hq;cases hq;omega
     ·exact HX.out j q (by omega) hq)
    clear hx;go_wp2_with fail
    go_roundw
    ·exact⟨k+1,by first|rfl|rw[i3],by omega,by simp,HN.out⟩
    ·first|(rw[i3];simp[intOf];omega)|(simp[intOf];omega)
  ·obtain rfl:k=n:=by omega
   have HF:=Lib.hid (show fewP l=true from by
    rw[HE.out,List.all_eq_true];intro p hp;obtain⟨j,hj⟩:=List.getElem?_of_mem hp;have:=(List.getElem?_eq_some_iff.1 hj).1;exact decide_eq_true (HX.out j p (by have:=HLN.out;omega) hj))
   go_wp2_with fail
   go_ret
   exact⟨by rw[HF.out];rfl,Below.refl _ _⟩
set_option maxHeartbeats 6400000 in
set_option maxRecDepth 100000 in
theorem own_any (A:Option Addr) (n c:Nat) (l:List Pl) (w:World) (hrd:Rd w w.heap.size 2 A n (flS l)) (hn60:n<=60) :
  Calls Tryz.prog 9 #[.slice A n c] w fun e w'=>(∃A' c',e=.returned (.slice A' l.length c')/\w'.ownsRow w.heap.size 82 2 (.slice A' l.length c') l.length (flS l))/\Below w.heap.size w w':=by
 have mixed:Tryz.prog.follows .mixedOrders=true:=by kernel_rfl
 have hln:=rdS_len hrd;have HR:=Lib.hid hrd;have HLN:=Lib.hid hln;clear hrd hln
 go_enter Tryz.func9, Tryz.ntmps9
 go_wp2_with fail
 go_loopw [3,4] (fun s3 s4 wr=>∃(k:Nat) (A1:Option Addr) (c1:Nat),s4=.int .i64 (k:Int)/\s3=.slice A1 k c1/\k<=n/\Hid (wr.ownsRow w.heap.size 82 2 (.slice A1 k c1) k (flS (l.take k))/\Below w.heap.size w wr)) (fun _ v _=>n-(intOf v).toNat)
 case atStart=>exact⟨0,none,0,by go_num,rfl,by omega,Lib.hid ⟨World.ownsRow_nil _ _ _ _,Below.refl _ _⟩⟩
 case round =>
  obtain⟨k,A1,c1',rfl,rfl,hk,HX⟩:=hrel;by_cases hkn:k<n
  ·obtain⟨ad,p,rfl,hbk,hx,e0,ej⟩:=sl_at (HR.out.below HX.out.2) hkn
   have c0:wr.cell? (ad.add (k*2))=some (.string p.s):=e0;have c1:wr.cell? ⟨(ad.add (k*2)).block,(ad.add (k*2)).off+1,none⟩=some (.int .i64 p.n):=ej 0 (by decide);clear e0 ej;have i1:(0:Int)<=(k:Int):=by omega
   have i2:(k:Int)<(n:Int):=by omega
   have i3:IntKind.i64.wrap ((k:Int)+1)=((k+1:Nat):Int):=by rw[IntKind.wrap_i64];omega
   have HTK:=Lib.hid (show flS (l.take (k+1))=flS (l.take k)++[.string p.s,.int .i64 p.n] from by rw[List.take_add_one,hx,flS_append];rfl);have HO:=Lib.hid HX.out.1;have HB:=Lib.hid HX.out.2;have HRV:=Lib.hid (show Rd (wr.alloc (.cells #[.string p.s,.int .i64 p.n] 82)).drew (wr.alloc (.cells #[.string p.s,.int .i64 p.n] 82)).drew.heap.size 2 (some ⟨wr.heap.size,0,none⟩) 1 [.string p.s,.int .i64 p.n] from(rdV_new (sz:=2) 82 wr [.string p.s,.int .i64 p.n] rfl).below (Below.refl _ _).drew);have HNO:=Lib.hid (fun(g:Nat) (h:some (⟨g,0,none⟩:Addr)=none)=>show(1:Nat)=0 from by cases h);have HONE:=Lib.hid (show ∀u∈([.string p.s,.int .i64 p.n]:List Value),u.oneCell'=true from by intro u hu;simp only[List.mem_cons,List.not_mem_nil,or_false] at hu;rcases hu with rfl|rfl<;>rfl);have HLE:=Lib.hid (show w.heap.size<=(wr.alloc (.cells #[.string p.s,.int .i64 p.n] 82)).drew.heap.size from Nat.le_trans HX.out.2.size (show wr.heap.size<=(wr.alloc (.cells #[.string p.s,.int .i64 p.n] 82)).heap.size by simp));have hS0:wr.drew.cell? (ad.add (k*2))=some (.string p.s)/\wr.drew.cell? ⟨(ad.add (k*2)).block,(ad.add (k*2)).off+1,none⟩=some (.int .i64 p.n):=⟨c0,c1⟩
   have hbw:(ad.add (k*2)).block<wr.heap.size:=by rw[add_block];exact Nat.lt_of_lt_of_le hbk HX.out.2.size
   have HSA:=Lib.hid (show ∀w9,Below w.heap.size (wr.alloc (.cells #[.string p.s,.int .i64 p.n] 82)).drew w9->w9.cell? (ad.add (k*2))=some (.string p.s)/\w9.cell? ⟨(ad.add (k*2)).block,(ad.add (k*2)).off+1,none⟩=some (.int .i64 p.n) from fun w9 hb9=>by
    have h1:(ad.add (k*2)).block<w.heap.size:=by rw[add_block];exact hbk
    exact⟨(hb9.cell h1).trans ((World.cell?_alloc_lt wr _ _ hbw).trans c0),(hb9.cell (p:=⟨(ad.add (k*2)).block,(ad.add (k*2)).off+1,none⟩) h1).trans ((World.cell?_alloc_lt wr _ ⟨(ad.add (k*2)).block,(ad.add (k*2)).off+1,none⟩ hbw).trans c1)⟩)
   have hSA:=HSA.out (wr.alloc (.cells #[.string p.s,.int .i64 p.n] 82)).drew (Below.refl _ _);have HOA:=Lib.hid (show(wr.alloc (.cells #[.string p.s,.int .i64 p.n] 82)).drew.ownsRow w.heap.size 82 2 (.slice A1 k c1') k (flS (l.take k)) from World.ownsRow.drew (World.ownsRow.alloc HO.out _));clear HX hx hbk hbw;go_wp2_with fail
   go_region_held3 (fun wx:World=>wx.cell? (ad.add (k*2))=some (.string p.s)/\wx.cell? ⟨(ad.add (k*2)).block,(ad.add (k*2)).off+1,none⟩=some (.int .i64 p.n)) (first|with_reducible exact hS0|with_reducible assumption) (first
    |(refine step_appV plEl (.tmp 11) (.tmp 23) rfl rfl HOA.out HRV.out (HNO.out wr.heap.size) HONE.out (by omega) (by decide) HLE.out (by rfl) (by rfl) ?_;intro v9 w9 hown9 hb9 _;obtain⟨A9,c9,rfl,-,-⟩:=own_slice hown9;have hS9:=HSA.out w9 hb9;have HW9:=Lib.hid (And.intro hown9 (HB.out.trans (((ext_alloc wr (.cells #[.string p.s,.int .i64 p.n] 82)).mono HB.out.size).drew.trans hb9)));clear hown9 hb9))
   all_goals
    clear hS0 hSA;go_wp2_with fail
    exact⟨⟨k+1,A9,c9,by first|rfl|rw[i3]|(push_cast;rfl),rfl,by omega,Lib.hid ⟨by rw[HTK.out];exact HW9.out.1,HW9.out.2⟩⟩,by first|(rw[i3];simp[intOf];omega)|(simp[intOf];omega)⟩
  ·obtain rfl:k=n:=by omega
   have h:=HX.out;rw[List.take_of_length_le (by rw[HLN.out];omega)] at h;have HF:=Lib.hid h;clear h;go_wp2_with fail
   go_ret
   rw[HLN.out];exact⟨⟨A1,c1',rfl,HF.out.1⟩,HF.out.2⟩
set_option maxHeartbeats 6400000 in
set_option maxRecDepth 100000 in
theorem same_any (A A':Option Addr) (n n' c c':Nat) (l l':List Pl) (w:World) (h1:Rd w w.heap.size 2 A n (flS l)) (h2:Rd w w.heap.size 2 A' n' (flS l')) (hn:n<=1000000) (hn':n'<=1000000) :
  Calls Tryz.prog 17 #[.slice A n c,.slice A' n' c'] w fun e w'=>e=.returned (.bool (decide (l=l')))/\Below w.heap.size w w':=by
 have mixed:Tryz.prog.follows .mixedOrders=true:=by kernel_rfl
 have L1:=rdS_len h1;have L2:=rdS_len h2;by_cases hnn:n=n'
 rotate_left
 ·have HE:=Lib.hid (show decide (l=l')=false from decide_eq_false fun e=>hnn (by rw[<-L1,<-L2,e]))
  have hne:((n:Int) != (n':Int))=true:=by rw[bne_iff_ne];omega
  have hne2:((n:Int)==(n':Int))=false:=by rw[beq_eq_false_iff_ne];omega
  clear h1 h2 L1 L2
  go_enter Tryz.func17, Tryz.ntmps17
  go_wp2_with fail
  go_ret
  exact⟨by rw[HE.out];rfl,Below.refl _ _⟩
 subst hnn;have HR1:=Lib.hid h1;have HR2:=Lib.hid h2;have HL:=Lib.hid (And.intro L1 L2);generalize hD:decide (l=l')=D;have HD:=Lib.hid hD;clear hD h1 h2 L1 L2 hn'
 go_enter Tryz.func17, Tryz.ntmps17
 go_wp2_with fail
 go_loopw [5] (fun v wr=>∃k:Nat,v=.int .i64 k/\k<=n/\Hid (Below w.heap.size w wr/\ ∀j,j<k->l[j]? =l'[j]?)) (fun v _=>n-(intOf v).toNat)
 case atStart=>exact⟨0,by go_num,by omega,Lib.hid ⟨Below.refl _ _,fun j hj=>absurd hj (by omega)⟩⟩
 case round =>
  obtain⟨k,rfl,hk,HX⟩:=hrel;by_cases hkn:k<n
  ·obtain⟨ad,p,rfl,hbk,hx,e0,ej⟩:=sl_at (HR1.out.below HX.out.1) hkn
   obtain⟨ad',q,rfl,hbk',hx',g0,gj⟩:=sl_at (HR2.out.below HX.out.1) hkn;have c0:wr.cell? (ad.add (k*2))=some (.string p.s):=e0;have c1:wr.cell? ⟨(ad.add (k*2)).block,(ad.add (k*2)).off+1,none⟩=some (.int .i64 p.n):=ej 0 (by decide);have d0:wr.cell? (ad'.add (k*2))=some (.string q.s):=g0;have d1:wr.cell? ⟨(ad'.add (k*2)).block,(ad'.add (k*2)).off+1,none⟩=some (.int .i64 q.n):=gj 0 (by decide);have i1:(0:Int)<=(k:Int):=by omega
   have i2:(k:Int)<(n:Int):=by omega
   have i3:IntKind.i64.wrap ((k:Int)+1)=((k+1:Nat):Int):=by rw[IntKind.wrap_i64];omega
   clear e0 ej g0 gj hbk hbk';by_cases hpq:p=q
   ·subst hpq
    have HN:=Lib.hid (show ∀j,j<k+1->l[j]? =l'[j]? from fun j hj=>by
     by_cases e:j=k
     ·subst e;rw[hx,hx']
     ·exact HX.out.2 j (by omega))
    have s1:(p.s.toList==p.s.toList)=true:=by simp
    have s2:(p.n != p.n)=false:=by simp
    clear hx hx';go_wp2_with fail
    go_quiet (fail)
    generalize hwd:wr.drewN _=w2 at *
    have HB2:=Lib.hid (show Below w.heap.size w w2 from hwd▸below_drewN HX.out.1 _);clear hwd;go_wp2_with fail
    go_roundw
    ·exact⟨k+1,by first|rfl|rw[i3],by omega,Lib.hid ⟨HB2.out,HN.out⟩⟩
    ·first|(rw[i3];simp[intOf];omega)|(simp[intOf];omega)
   ·have HF:=Lib.hid (show D=false from by
     rw[<-HD.out];refine decide_eq_false fun e=>hpq ?_
     rw[e,hx'] at hx;cases hx;rfl)
    have hor:(p.s.toList==q.s.toList)=false∨((p.s.toList==q.s.toList)=true/\(p.n==q.n)=false):=by
     rcases h:(p.s.toList==q.s.toList) with _|_
     ·exact .inl rfl
     ·refine .inr ⟨rfl,?_⟩
      rw[beq_eq_false_iff_ne];intro hn2;apply hpq
      have hs:p.s=q.s:=by
       have:=eq_of_beq h;rw[ByteArray.toList_eq,ByteArray.toList_eq] at this;exact ByteArray.ext (Array.toList_inj.1 this)
      obtain⟨ps,pn⟩:=p;obtain⟨qs,qn⟩:=q;simp only at hs hn2;rw[hs,hn2]
    clear hx hx' hpq;rcases hor with hs|⟨hs,hn2⟩
    ·go_wp2_with fail
     go_quiet (fail)
     generalize hwd:wr.drewN _=w2 at *
     have HB2:=Lib.hid (show Below w.heap.size w w2 from hwd▸below_drewN HX.out.1 _);clear hwd;go_wp2_with fail
     go_ret
     exact⟨by rw[HF.out];rfl,HB2.out⟩
    ·have hn3:(p.n != q.n)=true:=by rw[bne_iff_ne];exact ne_of_beq_false hn2
     go_wp2_with fail
     go_quiet (fail)
     generalize hwd:wr.drewN _=w2 at *
     have HB2:=Lib.hid (show Below w.heap.size w w2 from hwd▸below_drewN HX.out.1 _);clear hwd;go_wp2_with fail
     go_ret
     exact⟨by rw[HF.out];rfl,HB2.out⟩
  ·obtain rfl:k=n:=by omega
   have HF:=Lib.hid (show D=true from by
    rw[<-HD.out];refine decide_eq_true (List.ext_getElem? fun j=>?_);by_cases hj:j<k
    ·exact HX.out.2 j hj
    ·rw[List.getElem?_eq_none (by have:=HL.out.1;omega),List.getElem?_eq_none (by have:=HL.out.2;omega)])
   go_wp2_with fail
   go_ret
   exact⟨by rw[HF.out];rfl,HX.out.1⟩
end Fo
end Go.Proofs.YtejcdhdfanfkbaaGreat
