/- take: faults: check, Num, Text, End; Caught of a function that faults. follow.place: a place is taken, or none. append in a region that draws, elements of whatever size: putting one element into a row. -/
import Derived.Test.YtejcdhdfanfkbaaGreatFb11
import Derived.Deep.Cut
import Derived.Test.YtejcdhdfanfkbaaGreatFb07
import Derived.Test.YtejcdhdfanfkbaaGreatFb03
import Derived.Laws.OwnMore
import Derived.Maps.AppendAt
namespace Go.Proofs.YtejcdhdfanfkbaaGreat
namespace Tk
open Go.RowKit
theorem check_no (w:World) (b p:Nat) (s:ByteArray) (x:Int) (h:Ta w b s p) (hx:x≠0) :
  Calls Tryz.prog 90 #[.pointer (some ⟨b,0,none⟩),.int .i64 x] w fun e w'=>e=.panicked [fault x p]/\w=w':=by
 have hA:=Lib.hid (at_any w b p s h);have hb:(x==0)=false:=by rw[beq_eq_false_iff_ne];exact hx
 have hb2:(x != 0)=true:=by rw[bne_iff_ne];exact hx
 go_enter Tryz.func90, Tryz.ntmps90
 go_wp2_with fail
 refine hA.out.mono ?_;rintro e1 w1 ⟨rfl,rfl⟩;go_wp2_with fail
 exact⟨rfl,rfl,rfl⟩
set_option maxHeartbeats 3200000 in
theorem num_no (w:World) (b p:Nat) (s:ByteArray) (h:Ta w b s p) (hs:s.size<=1000000) (hp:p<=s.size) (hg:(Vi.gv 0 0 (s.data.toList.drop p)).2.2≠0) :
  Calls Tryz.prog 36 #[.pointer (some ⟨b,0,none⟩)] w fun e w'=>e=.panicked [fault (Vi.gv 0 0 (s.data.toList.drop p)).2.2 p]/\w=w':=by
 have mixed:Tryz.prog.follows .mixedOrders=true:=by kernel_rfl
 have hl:s.data.toList.length=s.size:=rfl;have hgv:Vi.getV s.data.toList (p:Int)=(0,0,(Vi.gv 0 0 (s.data.toList.drop p)).2.2):=by
  unfold Vi.getV;rw[if_neg (by rw[hl];omega),Int.toNat_natCast,if_neg hg]
 have hv:=Vi.get_any s (p:Int) w hs;rw[hgv] at hv;have HC:=Lib.hid (check_no w b p s _ h hg);generalize (Vi.gv 0 0 (s.data.toList.drop p)).2.2=x at *
 have HV:=Lib.hid hv;have HT:=Lib.hid (text_any w b p s h);have HA:=Lib.hid (at_any w b p s h);clear hl hgv hv h hg
 go_enter Tryz.func36, Tryz.ntmps36
 go_wp2_with fail
 refine HT.out.mono ?_;rintro e1 w1 ⟨rfl,rfl⟩;go_wp2_with fail
 refine HA.out.mono ?_;rintro e1 w1 ⟨rfl,rfl⟩;go_wp2_with fail
 refine HV.out.mono ?_;rintro e1 w1 ⟨rfl,rfl⟩;go_wp2_with fail
 refine HC.out.mono ?_;rintro e1 w1 ⟨rfl,rfl⟩;exact⟨rfl,rfl,rfl⟩
theorem assert_ok (t:TypeId) (v:Value) (w:World):(Instr.typeAssert (.iface 102 v) t 102 true).run Tryz.prog w=.ok (.tuple #[v,.bool true]) w:=by
 simp[Instr.typeAssert,run_underlying Tryz.underlying102]
set_option maxHeartbeats 3200000 in
set_option maxRecDepth 100000 in
theorem catch_fault (ba bb:Nat) (x:Int) (p:Nat) (w:World) (u1 u2:Value) (h1:Var w ba 25 u1) (h2:Var w bb 3 u2) (hne:ba≠bb) :
  CallsD Tryz.prog 91 #[.pointer (some ⟨ba,0,none⟩),.pointer (some ⟨bb,0,none⟩)] (.panicking [fault x p]) w fun e u' w'=>e=.returned (.tuple #[])/\u'=.panicking [{ fault x p with recovered:=true }] /\
   Var w' ba 25 (.int .i64 x)/\Var w' bb 3 (.int .i64 (p:Int))/\Keep w w' [ba,bb]:=by
 have mixed:Tryz.prog.follows .mixedOrders=true:=by kernel_rfl
 refine callsD_of_wpS Tryz.func91 rfl fun c₀ cs hu=>?_
 apply wpS_seq
 apply wpS_region
 simp[wpOpsS,go_sem,recoverD,hu,Tryz.ntmps91,Exit.thenS,fault]
 rw[tmps_idle];refine wpS_of_wp ?_;have hta:=fun(t:TypeId) (w:World)=>assert_ok t (.agg #[.int .i64 x,.int .i64 (p:Int)]) w
 have hc1:=h1.cell;have hf1:=h1.frozen;have hc2:=h2.cell;have hf2:=h2.frozen;have hl1:=h1.lt;have hl2:=h2.lt;have HX:=Lib.hid (And.intro h1 h2);clear h1 h2;go_wp2_with fail
 go_region
 all_goals
  go_wp2_with fail
  cases c₀
  simp[bodyPostS,results,Tryz.results91]
  exact⟨(((HX.out.1.set_ _).far (p:=⟨bb,0,none⟩) hne _).alloc _).drew,(((HX.out.2.far (p:=⟨ba,0,none⟩) (Ne.symm hne) _).set_ _).alloc _).drew,
   ((((Keep.refl w [ba,bb]).set ⟨ba,0,none⟩ (.inl (by simp)) _).set ⟨bb,0,none⟩ (.inl (by simp)) _).alloc _).drew⟩
set_option maxHeartbeats 6400000 in
set_option maxRecDepth 100000 in
theorem caughtF_no (fn:FuncId) (w:World) (caps:Array Value) (x:Int) (G:World->Prop) (hG:∀w',G w'->Var w' w.heap.size 25 (.int .i64 0)/\Var w' (w.heap.size+1) 3 (.int .i64 0))
  (hen:∀args w,(callFunc fn args).run Tryz.prog w=.ok (.enter fn args) w)
  (hf:Calls Tryz.prog fn caps (wC w) fun e w'=>(∃p,e=.panicked [fault x p])/\G w') :
  Calls Tryz.prog 37 #[.func (.func fn) #[] caps] w fun e w'=>(∃p:Int,e=.returned (.tuple #[.int .i64 x,.int .i64 p]))/\ ∃w2,G w2/\Keep w2 w' [w.heap.size,w.heap.size+1]:=by
 have mixed:Tryz.prog.follows .mixedOrders=true:=by kernel_rfl
 have hmf:∀(fn:Fn) (first cap:Array Value) (w:World),(Instr.makeFunc fn first cap).run Tryz.prog w=.ok (.func fn first cap) w:=fun _ _ _ _=>rfl
 have HF:=Lib.hid hf;have HG:=Lib.hid hG;clear hf hG;go_enter_defers Tryz.func37,Tryz.ntmps37
 go_wp2_with (go_at_fn fn;refine HF.out.mono ?_;rintro e1 w1 ⟨⟨p,rfl⟩,h1⟩)
 obtain⟨v1,v2⟩:=HG.out w1 h1;have n1:w.heap.size≠w.heap.size+1:=by omega
 refine leaves_cons (f:=91) (args:=#[.pointer (some ⟨w.heap.size,0,none⟩),.pointer (some ⟨w.heap.size+1,0,none⟩)]) (by simp) (by simp[go_sem]) ?_;refine(catch_fault w.heap.size (w.heap.size+1) x p w1 _ _ v1 v2 n1).mono ?_;rintro e u' w'' ⟨rfl,rfl,u1,u2,hk⟩;have d1:=u1.cell;have d2:=u2.cell;simp[Leaves,settle,results,Tryz.results37,go_sem,d1,d2]
 exact⟨w1,h1,hk⟩
theorem ext_take (s:ByteArray) (p d:Nat):s.extract p (p+d)=⟨((s.data.toList.drop p).take d).toArray⟩:=by
 apply ByteArray.ext
 apply Array.ext'
 rw[ByteArray.data_extract,Array.toList_extract,List.extract_eq_take_drop];rw[Nat.add_sub_cancel_left]
set_option maxHeartbeats 3200000 in
theorem ttextN (w:World) (b p d:Nat) (s:ByteArray) (h:Ta w b s p) (hs:s.size<=1000000) (hd:p+d<=s.size) :
  Calls Tryz.prog 92 #[.pointer (some ⟨b,0,none⟩),.int .i64 (d:Int)] w fun e w'=>e=.returned (.string ⟨((s.data.toList.drop p).take d).toArray⟩)/\Ta w' b s (p+d)/\Keep w w' [b]:=by
 have mixed:Tryz.prog.follows .mixedOrders=true:=by kernel_rfl
 have HL:=Lib.hid (left_any w b p s h hs (by omega));have hle: ¬ ((s.size-p:Nat):Int)<(d:Int):=by omega
 have hn0: ¬ (d:Int)<0:=by omega
 by_cases h0:d=0
 ·subst h0
  have HR:=Lib.hid (show(⟨((s.data.toList.drop p).take 0).toArray⟩:ByteArray)=⟨#[]⟩ by rw[List.take_zero]);have H:Aside (Ta w b s p):=h;clear h
  go_enter Tryz.func92, Tryz.ntmps92
  go_wp2_with (go_at_call 93;refine HL.out.mono ?_;rintro e1 w1 ⟨rfl,m,rfl⟩)
  go_ret
  exact⟨by rw[HR.out];rfl,H.out,(Keep.refl w [b]).drewN m⟩
 ·have HR:=Lib.hid (ext_take s p d)
  obtain⟨q,hq⟩:∃q,p+d=q:=⟨_,rfl⟩
  rw[hq] at HR hd ⊢;have H:Aside (Ta w b s p):=h;have hd0:((d:Int)==0)=false:=by rw[beq_eq_false_iff_ne];omega
  clear h
  go_enter Tryz.func92, Tryz.ntmps92
  go_wp2_with fail
  refine HL.out.mono ?_;rintro e1 w1 ⟨rfl,m,rfl⟩;have hta:Ta (w.drewN m) b s p:=H.out;have hc1:=hta.c1;have hf1:=hta.fz 1;have hta2:=hta.set1 q;have hd0':=hta2.c0;have hd1':=hta2.c1;have e2:(p:Int)+(d:Int)=(q:Int):=by omega
  have e2w:IntKind.i64.wrap ((p:Int)+(d:Int))=(q:Int):=by rw[IntKind.wrap_i64];omega
  have e3:(q:Int)-(d:Int)=(p:Int):=by omega
  have e3w:IntKind.i64.wrap ((q:Int)-(d:Int))=(p:Int):=by rw[IntKind.wrap_i64];omega
  have HF:=Lib.hid (And.intro hta2 (((Keep.refl w [b]).drewN m).set ⟨b,1,none⟩ (.inl (by simp)) (.int .i64 (q:Int))));clear hta hta2;have i0:(0:Int)<=(p:Int):=by omega
  have i1:(p:Int)<=(q:Int):=by omega
  have i2:(q:Int)<=(s.size:Int):=by omega
  have i3:((p:Int)).toNat=p:=by omega
  have i4:((q:Int)).toNat=q:=by omega
  clear hq e2 e3;go_wp2_with fail
  generalize (w.drewN m).setCell ⟨b,1,none⟩ (.int .i64 (q:Int))=w2 at *
  clear hc1 hf1 e2w;go_quiet (fail)
  go_wp2_with fail
  go_ret
  exact⟨by rw[<-HR.out];rfl,HF.out.1,HF.out.2.drewN _⟩
set_option maxHeartbeats 3200000 in
theorem ttextN_no (w:World) (b p d:Nat) (s:ByteArray) (h:Ta w b s p) (hs:s.size<=1000000) (hp:p<=s.size) (hd:s.size<p+d) :
  Calls Tryz.prog 92 #[.pointer (some ⟨b,0,none⟩),.int .i64 (d:Int)] w fun e w'=>e=.panicked [fault 4 p]/\Keep w w' [b]:=by
 have mixed:Tryz.prog.follows .mixedOrders=true:=by kernel_rfl
 have HL:=Lib.hid (left_any w b p s h hs (by omega));have HC:=Lib.hid (fun m=>check_no (w.drewN m) b p s 4 h (by omega));have hle:((s.size-p:Nat):Int)<(d:Int):=by omega
 have hn0: ¬ (d:Int)<0:=by omega
 clear h hd
 go_enter Tryz.func92, Tryz.ntmps92
 go_wp2_with (first
  |(go_at_call 93;refine HL.out.mono ?_;rintro e1 w1 ⟨rfl,m,rfl⟩)
  |(go_at_call 90;refine(HC.out m).mono ?_;rintro e2 w2 ⟨rfl,rfl⟩))
 exact⟨rfl,rfl,(Keep.refl w [b]).drewN m⟩
theorem end_no (w:World) (b p:Nat) (s:ByteArray) (h:Ta w b s p) (hs:s.size<=1000000) (hp:p<s.size) :
  Calls Tryz.prog 40 #[.pointer (some ⟨b,0,none⟩)] w fun e w'=>e=.panicked [fault 6 p]/\Keep w w' [b]:=by
 have HL:=Lib.hid (left_any w b p s h hs (by omega));have HC:=Lib.hid (fun m=>check_no (w.drewN m) b p s 6 h (by omega));have hle:(0:Int)<((s.size-p:Nat):Int):=by omega
 clear h hp
 go_enter Tryz.func40, Tryz.ntmps40
 go_wp2_with (first
  |(go_at_call 93;refine HL.out.mono ?_;rintro e1 w1 ⟨rfl,m,rfl⟩)
  |(go_at_call 90;refine(HC.out m).mono ?_;rintro e2 w2 ⟨rfl,rfl⟩))
 exact⟨rfl,rfl,(Keep.refl w [b]).drewN m⟩
end Tk
end Go.Proofs.YtejcdhdfanfkbaaGreat
namespace Go.Proofs.YtejcdhdfanfkbaaGreat
namespace Fo
open Go.RowKit Rd Dk Vi Tk
theorem gv_len {l:List UInt8} (h:(gv 0 0 l).2.2=0):(gv 0 0 l).2.1<=l.length:=by
 obtain⟨n,rest,e,e1,e2,-⟩:=gv_some l 0 0 (gv 0 0 l).1 (gv 0 0 l).2.1 (by rw[<-h]);rw[e2]
 conv=>rhs;rw[e]
 rw[List.length_append];omega
theorem gv_prod {l:List UInt8} (h:(gv 0 0 l).2.2=0):gv 0 0 l=((gv 0 0 l).1,(gv 0 0 l).2.1,0):=by rw[<-h]
def PlAns (s:ByteArray) (p b:Nat) (w:World) (e:Ending) (w':World):Prop :=
 Keep w w' [b]/\(((tk1 (s.data.toList.drop p)).1=0/\e=.returned (.agg #[.string (tk1 (s.data.toList.drop p)).2.1.s,.int .i64 (tk1 (s.data.toList.drop p)).2.1.n])/\ ∃q,Ta w' b s q/\q<=s.size/\s.data.toList.drop q=(tk1 (s.data.toList.drop p)).2.2) ∨
  ((tk1 (s.data.toList.drop p)).1≠0/\ ∃p',e=.panicked [fault (tk1 (s.data.toList.drop p)).1 p']))
set_option maxHeartbeats 6400000 in
set_option maxRecDepth 100000 in
theorem fplace_any (s:ByteArray) (w:World) (b p:Nat) (ht:Ta w b s p) (hs:s.size<=1000000) (hp:p<=s.size) :
  Calls Tryz.prog 39 #[.pointer (some ⟨b,0,none⟩)] w fun e w'=>PlAns s p b w e w':=by
 have mixed:Tryz.prog.follows .mixedOrders=true:=by kernel_rfl
 have hlt:=ht.lt;have ht0:Ta (w.alloc (.cells #[.string ⟨#[]⟩,.int .i64 0] 82)) b s p:=(Below.heap_alloc w _ _ hlt).trans ht;have hk0:Keep w (w.alloc (.cells #[.string ⟨#[]⟩,.int .i64 0] 82)) [b]:=(Keep.refl w [b]).alloc _;have hb0:=Blk.new w #[.string ⟨#[]⟩,.int .i64 0] 82;have hneb:b≠w.heap.size:=by omega
 generalize hL:s.data.toList.drop p=L at *
 have hll:L.length=s.size-p:=by rw[<-hL,List.length_drop];rfl
 generalize hw0:w.alloc (.cells #[.string ⟨#[]⟩,.int .i64 0] 82)=w0 at *
 have HW0:=Lib.hid hw0;have HA:=Lib.hid (at_any w0 b p s ht0);by_cases h1:(gv 0 0 L).2.2=0
 rotate_left
 ·have HR:=Lib.hid (show tk1 L=((gv 0 0 L).2.2,default,[]) from if_pos h1)
  have hno:=num_no w0 b p s ht0 hs hp (by rw[hL];exact h1);rw[hL] at hno;have HN:=Lib.hid hno;have H1:=Lib.hid h1;have HK:=Lib.hid hk0;have HLL:=Lib.hid hL;clear hno h1 ht ht0 hk0 hb0 hll hw0 hs hp hL
  go_enter Tryz.func39, Tryz.ntmps39
  go_upto_region 1 with fail
  rw[HW0.out];go_wp2_with (first
   |(go_at_call 89;refine HA.out.mono ?_;rintro e1 w1 ⟨rfl,rfl⟩)
   |(go_at_call 36;refine HN.out.mono ?_;rintro e2 w2 ⟨rfl,rfl⟩))
  unfold PlAns;rw[HLL.out,HR.out];exact⟨rfl,HK.out,.inr ⟨H1.out,_,rfl⟩⟩
 obtain⟨n,hn⟩:∃n,(gv 0 0 L).1=n:=⟨_,rfl⟩
 obtain⟨u,hu⟩:∃u,(gv 0 0 L).2.1=u:=⟨_,rfl⟩
 have hul:=gv_len h1;rw[hu] at hul;have hgp:=gv_prod h1;rw[hn,hu] at hgp;have hnum:=num_ok w0 b p n u s ht0 hs hp (by rw[hL];exact hgp);have ht1:Ta (w0.setCell ⟨b,1,none⟩ (.int .i64 ((p+u:Nat):Int))) b s (p+u):=ht0.set1 _;have hk1:Keep w (w0.setCell ⟨b,1,none⟩ (.int .i64 ((p+u:Nat):Int))) [b]:=hk0.set ⟨b,1,none⟩ (.inl (by simp)) _;have hb1:Blk (w0.setCell ⟨b,1,none⟩ (.int .i64 ((p+u:Nat):Int))) w.heap.size #[.string ⟨#[]⟩,.int .i64 0] 82:=hb0.setCell (by omega) _;obtain⟨p1,hp1⟩:∃p1,p+u=p1:=⟨_,rfl⟩
 rw[hp1] at hnum ht1 hk1 hb1;have hp1s:p1<=s.size:=by omega
 have hL1:s.data.toList.drop p1=L.drop u:=by rw[<-hL,List.drop_drop,hp1]
 have HN1:=Lib.hid (show Calls Tryz.prog 36 #[.pointer (some ⟨b,0,none⟩)] w0 fun e w'=>e=.returned (.int .i64 (n:Int))/\Ta w' b s p1/\Keep w w' [b]/\Blk w' w.heap.size #[.string ⟨#[]⟩,.int .i64 0] 82 from hnum.mono (by
  rintro e w' ⟨rfl,rfl⟩;exact⟨rfl,ht1,hk1,hb1⟩))
 clear hnum ht1 hk1 hb1 ht ht0 hk0 hb0;by_cases h2:64<n
 ·have HR:=Lib.hid (show tk1 L=(180,default,[]) from by unfold tk1;rw[if_neg (by rw[h1];simp),if_pos (by rw[hn];exact h2)])
  have h2i:(64:Int)<(n:Int):=by omega
  have HLL:=Lib.hid hL;clear h1 hgp hL hL1 hll hw0 hs hp hul hn hu hp1 hp1s
  go_enter Tryz.func39, Tryz.ntmps39
  go_upto_region 1 with fail
  rw[HW0.out];go_wp2_with (first
   |(go_at_call 89;refine HA.out.mono ?_;rintro e1 w1 ⟨rfl,rfl⟩)
   |(go_at_call 36;refine HN1.out.mono ?_;rintro e2 w2 ⟨rfl,-,hk2,-⟩;have HK:=Lib.hid hk2;clear hk2))
  unfold PlAns;rw[HLL.out,HR.out];exact⟨rfl,HK.out,.inr ⟨by simp,p,rfl⟩⟩
 have hll1:(L.drop u).length=s.size-p1:=by rw[List.length_drop,hll];omega
 have hle64: ¬ (64:Int)<(n:Int):=by omega
 by_cases h3:s.size<p1+n
 ·have HR:=Lib.hid (show tk1 L=(4,default,[]) from by unfold tk1;rw[if_neg (by rw[h1];simp),if_neg (by rw[hn];exact h2),hu,hn,if_pos (by rw[hll1];omega)])
  have HT:=Lib.hid (fun(wx:World) (ht:Ta wx b s p1)=>ttextN_no wx b p1 n s ht hs hp1s h3);have HLL:=Lib.hid hL;clear h1 hgp hL hL1 hll hw0 hs hp hul hn hu hp1 hp1s hll1 h3 h2
  go_enter Tryz.func39, Tryz.ntmps39
  go_upto_region 1 with fail
  rw[HW0.out];go_wp2_with (first
   |(go_at_call 89;refine HA.out.mono ?_;rintro e1 w1 ⟨rfl,rfl⟩)
   |(go_at_call 36;refine HN1.out.mono ?_;rintro e2 w2 ⟨rfl,ht2,hk2,-⟩;have HK:=Lib.hid (And.intro ht2 hk2);clear ht2 hk2)
   |(go_at_call 92;refine(HT.out _ HK.out.1).mono ?_;rintro e3 w3 ⟨rfl,hk3⟩;have HK3:=Lib.hid (HK.out.2.trans hk3);clear hk3))
  unfold PlAns;rw[HLL.out,HR.out];exact⟨rfl,HK3.out,.inr ⟨by simp,p1,rfl⟩⟩
 have HT:=Lib.hid (fun(wx:World) (ht:Ta wx b s p1)=>ttextN wx b p1 n s ht hs (by omega));rw[hL1] at HT;obtain⟨p2,hp2⟩:∃p2,p1+n=p2:=⟨_,rfl⟩
 rw[hp2] at HT;have hL2:s.data.toList.drop p2=(L.drop u).drop n:=by rw[<-hL1,List.drop_drop,hp2]
 have hll2:((L.drop u).drop n).length=s.size-p2:=by rw[List.length_drop,hll1];omega
 by_cases h4:(gv 0 0 ((L.drop u).drop n)).2.2=0
 rotate_left
 ·have HR:=Lib.hid (show tk1 L=((gv 0 0 ((L.drop u).drop n)).2.2,default,[]) from by unfold tk1;rw[if_neg (by rw[h1];simp),if_neg (by rw[hn];exact h2),hu,hn,if_neg (by rw[hll1];omega),if_pos h4])
  have HN2:=Lib.hid (fun(wx:World) (ht:Ta wx b s p2)=>num_no wx b p2 s ht hs (by omega) (by rw[hL2];exact h4));rw[hL2] at HN2;have H4:=Lib.hid h4;have HLL:=Lib.hid hL;generalize (gv 0 0 ((L.drop u).drop n)).2.2=x4 at *
  clear h1 hgp hL hL1 hll hw0 hs hp hul hn hu hp1 hp1s hll1 h3 h2 h4 hL2 hll2 hp2;have tok:True:=trivial
  go_enter Tryz.func39, Tryz.ntmps39
  go_upto_region 1 with fail
  rw[HW0.out];go_wp2_with (first
   |(go_at_call 89;refine HA.out.mono ?_;rintro e1 w1 ⟨rfl,rfl⟩)
   |(go_at_call 36;have _t:=tok;refine HN1.out.mono ?_;rintro e2 w2 ⟨rfl,ht2,hk2,-⟩;have HK:=Lib.hid (And.intro ht2 hk2);clear ht2 hk2 tok _t)
   |(go_at_call 92;refine(HT.out _ HK.out.1).mono ?_;rintro e3 w3 ⟨rfl,ht3,hk3⟩;have HK3:=Lib.hid (And.intro ht3 (HK.out.2.trans hk3));clear ht3 hk3)
   |(go_at_call 36;refine(HN2.out _ HK3.out.1).mono ?_;rintro e4 w4 ⟨rfl,rfl⟩))
  unfold PlAns;rw[HLL.out,HR.out];exact⟨rfl,HK3.out.2,.inr ⟨H4.out,_,rfl⟩⟩
 obtain⟨k,hk⟩:∃k,(gv 0 0 ((L.drop u).drop n)).1=k:=⟨_,rfl⟩
 obtain⟨u2,hu2⟩:∃u2,(gv 0 0 ((L.drop u).drop n)).2.1=u2:=⟨_,rfl⟩
 have hul2:=gv_len h4;rw[hu2] at hul2;have hgp2:=gv_prod h4;rw[hk,hu2] at hgp2;have HR:=Lib.hid (show tk1 L=(0,⟨⟨((L.drop u).take n).toArray⟩,(k:Int)⟩,((L.drop u).drop n).drop u2) from by unfold tk1;rw[if_neg (by rw[h1];simp),if_neg (by rw[hn];exact h2),hu,hn,if_neg (by rw[hll1];omega),if_neg (by rw[h4];simp),hk,hu2]);obtain⟨p3,hp3⟩:∃p3,p2+u2=p3:=⟨_,rfl⟩
 have hp3s:p3<=s.size:=by omega
 have hL3:s.data.toList.drop p3=((L.drop u).drop n).drop u2:=by rw[<-hL2,List.drop_drop,hp3]
 have HN2:=Lib.hid (show ∀(wx:World),Ta wx b s p2->Calls Tryz.prog 36 #[.pointer (some ⟨b,0,none⟩)] wx fun e w'=>e=.returned (.int .i64 (k:Int))/\Ta w' b s p3/\Keep wx w' [b] from fun wx ht=>(num_ok wx b p2 k u2 s ht hs (by omega) (by rw[hL2];exact hgp2)).mono (by
  rintro e w' ⟨rfl,rfl⟩;rw[hp3];exact⟨rfl,ht.set1 _,(Keep.refl wx [b]).set ⟨b,1,none⟩ (.inl (by simp)) _⟩))
 have HLL:=Lib.hid (And.intro hL (And.intro hp3s hL3));have HBN:=Lib.hid (show w.heap.size≠b from Ne.symm hneb);clear h1 hgp hL hL1 hll hw0 hs hp hul hn hu hp1 hp1s hll1 h3 h2 h4 hL2 hll2 hp2 hk hu2 hul2 hgp2 hp3 hp3s hL3 hneb hlt;generalize (L.drop u).take n=T at *
 generalize ((L.drop u).drop n).drop u2=L3 at *
 have tok:True:=trivial
 go_enter Tryz.func39, Tryz.ntmps39
 go_upto_region 1 with fail
 rw[HW0.out];go_wp2_with (first
  |(go_at_call 89;refine HA.out.mono ?_;rintro e1 w1 ⟨rfl,rfl⟩)
  |(go_at_call 36;have _t:=tok;refine HN1.out.mono ?_;rintro e2 w2 ⟨rfl,ht2,hk2,hb2⟩;have HK:=Lib.hid (And.intro ht2 (And.intro hk2 hb2));clear ht2 hk2 hb2 tok _t)
  |(go_at_call 92;refine(HT.out _ HK.out.1).mono ?_;rintro e3 w3 ⟨rfl,ht3,hk3⟩;have HK3:=Lib.hid (And.intro ht3 (And.intro (HK.out.2.1.trans hk3) (show Blk w3 w.heap.size #[.string ⟨#[]⟩,.int .i64 0] 82 from(hk3.blk _ HK.out.2.2.lt (by simpa using HBN.out)).trans HK.out.2.2)));clear ht3 hk3)
  |(go_at_call 36;refine(HN2.out _ HK3.out.1).mono ?_;rintro e4 w4 ⟨rfl,ht4,hk4⟩;have HK4:=Lib.hid (And.intro ht4 (And.intro (HK3.out.2.1.trans hk4) (show Blk w4 w.heap.size #[.string ⟨#[]⟩,.int .i64 0] 82 from(hk4.blk _ HK3.out.2.2.lt (by simpa using HBN.out)).trans HK3.out.2.2)));clear ht4 hk4)
  |(refine wpList_store_row rfl 82 (.tmp 2) (.tmp 21) rfl w.heap.size #[.string ⟨T.toArray⟩,.int .i64 (k:Int)] #[.string ⟨#[]⟩,.int .i64 0] (by simp[go_sem,Act.eval]) (by simp[go_sem,Act.eval]) HK4.out.2.2 pl_info rfl (by simp[Value.oneCell']) ?_))
 refine bodyPost_ret (v:=.agg #[.string ⟨T.toArray⟩,.int .i64 (k:Int)]) (by exact results_cell1 rfl rfl (HK4.out.2.2.set #[.string ⟨T.toArray⟩,.int .i64 (k:Int)]) Tryz.underlying82 rfl pl_info) (by exact rfl) ?_;unfold PlAns;rw[HLL.out.1,HR.out];have hK:=HK4.out.2.1;exact⟨⟨hK.os,hK.tape,hK.output,by rw[size_setRow];exact hK.size,fun j hj hl=>(setRow_other w4 _ j _ (by omega)).trans (hK.blk j hj hl)⟩,.inl ⟨rfl,rfl,p3,(setRow_other w4 _ b _ (Ne.symm HBN.out)).trans HK4.out.1,HLL.out.2.1,HLL.out.2.2⟩⟩
end Fo
end Go.Proofs.YtejcdhdfanfkbaaGreat
namespace Go.Proofs.YtejcdhdfanfkbaaGreat
namespace Rf
open Go.RowKit Go.Maps
structure El (t ts:TypeId) (z:Value) (sz bt:Nat):Prop where
 info:(Tryz.prog.info? t).map (fun i=>(i.zero,i.size,i.bytes))=some (some z,sz,bt)
 sl:Tryz.prog.underlying ts=some (.slice t)
 zc:z.cells.size=sz
 pos:0<sz
 small:bt<=128
theorem intEl:El 3 47 (.int .i64 0) 1 8:=⟨int_info,Tryz.underlying47,rfl,by decide,by decide⟩
structure ArgV (w:World) (sz:Nat) (A:Option Addr) (n c:Nat) (V:List Value):Prop where
 rd:Rd w w.heap.size sz A n V
 nc:n<=c
 cm:c<=maxLen
 no:A=none->c=0
section
variable {w w':World} {B sz n c k:Nat} {A:Option Addr} {t ts:TypeId} {z:Value} {bt:Nat} {v:Value} {V X:List Value}
theorem ArgV.ext (h:ArgV w sz A n c V) (hb:Below w.heap.size w w'):ArgV w' sz A n c V:=⟨h.rd.ext hb,h.nc,h.cm,h.no⟩
theorem argV_of_own (h:w.ownsRow B t sz v n V):∃A c,v=.slice A n c/\ArgV w sz A n c V:=by
 have h0:=h;obtain⟨A,c,rfl,h1,h2⟩:=own_slice h0;refine⟨A,c,rfl,Rd.of_own h,h1,h2,?_⟩;rintro rfl;rcases h.2 with ⟨hv,_⟩|⟨g,cap,cur,hv,_⟩
 ·simp only[Value.slice.injEq] at hv;exact hv.2.2
 ·cases hv
theorem ArgV.take (h:ArgV w sz A n c V) (hb:Below w.heap.size w w') (hk:k<=n):Rd w' w'.heap.size sz A k (V.take (k*sz)):=(h.rd.ext hb).take hk
theorem ArgV.drop0 (h:ArgV w sz A n c V) (hb:Below w.heap.size w w'):Rd w' w'.heap.size sz (if c=n then A else A.map (·.add (n*sz))) 0 (V.drop (n*sz)):=by
 have h1:=(h.rd.ext hb).drop (k:=n) (Nat.le_refl _) h.nc
 rwa [Nat.sub_self] at h1
theorem ArgV.drop0_no (h:ArgV w sz A n c V):(if c=n then A else A.map (·.add (n*sz)))=none->c-n=0:=by
 intro hh;split at hh
 ·omega
 ·cases A with
  |none=>have:=h.no rfl;omega
  |some ad=>cases hh
theorem ArgV.drop {ad:Addr} (h:ArgV w sz (some ad) n c V) (hb:Below w.heap.size w w') (hk:k<n):Rd w' w'.heap.size sz (some (ad.add (k*sz))) (n-k) (V.drop (k*sz)):=by
 have h1:=(h.rd.ext hb).drop (k:=k) (Nat.le_of_lt hk) h.nc;rw[if_neg (by have:=h.nc;omega)] at h1;exact h1
theorem ArgV.some (h:ArgV w sz A n c V) (hn:0<n):∃ad,A=.some ad:=by
 obtain⟨ad,e,_⟩:=h.rd.cells hn;exact⟨ad,e⟩
theorem ownV_empty (t:TypeId) (w:World):(w.alloc (.cells #[] t)).ownsRow w.heap.size t sz (.slice (.some ⟨w.heap.size,0,none⟩) 0 0) 0 [] :=
 World.ownsRow_lit w #[] 0 (Nat.le_refl _) (by simp[maxLen]) (by simp)
theorem rdV_new (t:TypeId) (w:World) (X:List Value) (hX:X.length=sz):Rd (w.alloc (.cells X.toArray t)) (w.alloc (.cells X.toArray t)).heap.size sz (.some ⟨w.heap.size,0,none⟩) 1 X:=by
 have:=Rd.of_own (World.ownsRow_lit (base:=w.heap.size) (e:=t) (size:=sz) w X.toArray 1 (Nat.le_refl _) (by simp[maxLen]) (by simp[hX]));simpa using this
theorem ownV_empty2 (t t':TypeId) (w w1:World) (X:Array Value) (h:w1.heap.size=w.heap.size):((w1.alloc (.cells X t')).alloc (.cells #[] t)).ownsRow w.heap.size t sz (.slice (.some ⟨w.heap.size+1,0,none⟩) 0 0) 0 []:=by
 have hh:=ownV_empty (sz:=sz) t (w1.alloc (.cells X t'));have e:(w1.alloc (.cells X t')).heap.size=w.heap.size+1:=by simp[h]
 rw[e] at hh;exact own_lower hh (Nat.le_succ _)
theorem rdV_far {g b:Nat} (hX:X.length=sz) (hb:w.heap.size=b) (h:(w.alloc (.cells X.toArray t)).grownBy w' (.some g)) (hg:g≠w.heap.size):Rd w' w'.heap.size sz (.some ⟨b,0,none⟩) 1 X:=by
 subst hb;have hr:=rdV_new (sz:=sz) t w X hX;refine⟨hr.len,fun hn=>?_⟩;obtain⟨ad,e,hb,hc⟩:=hr.cells hn;cases e
 refine⟨_,rfl,Nat.lt_of_lt_of_le hb h.size,fun j u hu=>?_⟩;have:=hc j u hu;rw[Addr.add_lit] at this ⊢;rw[World.grownBy.cell_far h ⟨w.heap.size,0+j,none⟩ (by simp) (by intro e;cases e;exact hg rfl)];exact this
theorem run_appV {w0:World} {n0:Nat} (he:El t ts z sz bt) (ty:TypeId) (hown:w0.ownsRow B t sz v n0 V) (hrd:Rd w0 w0.heap.size sz A n X) (hA:A=none->c=0) (h1:∀u∈X,u.oneCell'=true) (hl:n0<=1000000000) (hn:n<=1000000000) (hB:B<=w0.heap.size) :
  ∃v' w',(Builtin.append_ #[ts,ts] ty #[v,.slice A n c]).run Tryz.prog w0=.ok v' w'/\w'.ownsRow B t sz v' (n0+n) (V++X)/\Below B w0 w'/\w0.grownBy w' v.ownBlock:=by
 obtain⟨i0,hi,hz0,hz1,hz2⟩:=info_parts he.info;have hs:=he.small;cases A with
 |none =>
  have hn0:n=0:=by
   rcases Nat.eq_zero_or_pos n with h0|h0
   ·exact h0
   ·obtain⟨ad,e,_⟩:=hrd.cells (by omega)
    cases e
  have hc0:=hA rfl;subst hn0 hc0;have hX:X=[]:=List.eq_nil_of_length_eq_zero (by rw[hrd.len];simp);subst hX;exact⟨v,w0,run_append_owned_none (P:=Tryz.prog) (w:=w0) B ts ty t i0 sz he.sl hi v n0 V hown,by rw[List.append_nil];exact hown,Below.refl _ _,⟨rfl,rfl,rfl,Nat.le_refl _,fun _ _ _=>rfl⟩⟩
 |some ad =>
  obtain⟨v',w',hr,h2,h3,-,-⟩:=run_append_own_at (P:=Tryz.prog) w0 B ts ty t i0 z sz bt he.sl hi hz0 hz1 hz2 he.zc he.pos v n0 V hown
   ad n c X hrd.len (by
    intro j u hu;have hj:=(List.getElem?_eq_some_iff.1 hu).1;rw[hrd.len] at hj;have hn0:0<n:=by
     rcases Nat.eq_zero_or_pos n with h0|h0
     ·subst h0;simp at hj
     ·exact h0
    obtain⟨ad',e,_,hc⟩:=hrd.cells hn0;cases e
    exact hc j u hu) h1 (by simp only[maxLen];omega) (Nat.le_trans (Nat.mul_le_mul_left _ hs) (by omega)) hB
  have hlt:=World.ownsRow.lt hown;exact⟨v',w',hr,h2,((Below.refl _ _).grown h3 hB (fun k hk=>(hlt k hk).1)),h3⟩
end
section
variable {ops:Array Oper} {rest:List Oper} {o:Oper} {a:Act} {K:Act->World->Prop} {Q:Exit->Act->World->Prop} {E:Prop}
theorem step_appV {t ts:TypeId} {z:Value} {sz bt:Nat} (he:El t ts z sz bt) (s x:Operand) {w0:World} {B n0:Nat} {v:Value} {V X:List Value} {A:Option Addr} {n c:Nat}
  (hgd:o.guard=none) (ho:o.op=.call { callee:=.builtin .append,args:=#[s,x],argTypes:=#[ts,ts] })
  (hown:w0.ownsRow B t sz v n0 V) (hrd:Rd w0 w0.heap.size sz A n X) (hA:A=none->c=0) (h1:∀u∈X,u.oneCell'=true) (hl:n0<=1000000000) (hn:n<=1000000000) (hB:B<=w0.heap.size) (hs:a.eval s=v) (hx:a.eval x=.slice A n c)
  (h:∀v' w',w'.ownsRow B t sz v' (n0+n) (V++X)->Below B w0 w'->w0.grownBy w' v.ownBlock->K (a.put o.dst v') w') :
  if Region.wanted o (yielded ops a.tmps)=true then Oper.wp Tryz.prog o a w0 K Q else E:=by
 have hw:Region.wanted o (yielded ops a.tmps)=true:=by simp[Region.wanted,hgd]
 rw[if_pos hw];obtain⟨v',w',hr,h3,h4,h5⟩:=run_appV he o.type hown hrd hA h1 hl hn hB;unfold Oper.wp execOp;simp only[ho,resolve,invoke,builtin,Sem.run_bind,Sem.run_pure,Result.andThen_ok,List.map_toArray,List.map_cons,List.map_nil,hs,hx,hr];exact h v' w' h3 h4 h5
end
end Rf
end Go.Proofs.YtejcdhdfanfkbaaGreat
