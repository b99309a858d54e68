/- take: Taker: New, At, text, check, Num. take.Caught$1, Caught. -/
import Derived.Test.YtjligbmickfbdaaGreatBe40
import Derived.Test.YtjligbmickfbdaaGreatBe05
import Derived.Defers
import Derived.Recover
namespace Go.Proofs.YtjligbmickfbdaaGreat
namespace Tk
open Go.RowKit
open Bt (Frm)
def Ta (w:World) (b:Nat) (s:ByteArray) (p:Nat):Prop:=w.heap[b]? =some (.cells #[.string s,.int .i64 (p:Int)] 112 (0,0))
section
variable {w w':World} {b p:Nat} {s:ByteArray}
theorem Ta.lt (h:Ta w b s p):b<w.heap.size:=(Array.getElem?_eq_some_iff.1 h).1
theorem Ta.c0 (h:Ta w b s p):w.cell? ⟨b,0,none⟩=some (.string s):=by rw[cell_of_row w b 0 _ _ (0,0) h];rfl
theorem Ta.c1 (h:Ta w b s p):w.cell? ⟨b,1,none⟩=some (.int .i64 (p:Int)):=by rw[cell_of_row w b 1 _ _ (0,0) h];rfl
theorem Ta.fz (h:Ta w b s p) (j:Nat):w.frozen? ⟨b,j,none⟩=false:=frozen_of_row w b j _ _ h
theorem Ta.set1 (h:Ta w b s p) (q:Nat):Ta (w.setCell ⟨b,1,none⟩ (.int .i64 (q:Int))) b s q:=by
 unfold Ta at *
 simp[World.setCell,Array.getElem?_modify,h]
end
theorem takeNew_any (s:ByteArray) (w:World) :
  Calls Tryz.prog 35 #[.string s] w fun e w'=>e=.returned (.pointer (some ⟨w.heap.size,0,none⟩))/\Ta w' w.heap.size s 0/\Below w.heap.size w w':=by
 go_enter Tryz.func35, Tryz.ntmps35
 go_wp2_with fail
 go_ret
 exact⟨rfl,heap_alloc_new w _,(Below.refl _ _).alloc (Nat.le_refl _) _⟩
theorem at_any (w:World) (b p:Nat) (s:ByteArray) (h:Ta w b s p) :
  Calls Tryz.prog 72 #[.pointer (some ⟨b,0,none⟩)] w fun e w'=>e=.returned (.int .i64 (p:Int))/\w=w':=by
 have hc:=h.c1
 go_enter Tryz.func72, Tryz.ntmps72
 go_wp2_with fail
 go_ret
 exact⟨rfl,rfl⟩
theorem text_any (w:World) (b p:Nat) (s:ByteArray) (h:Ta w b s p) :
  Calls Tryz.prog 71 #[.pointer (some ⟨b,0,none⟩)] w fun e w'=>e=.returned (.string s)/\w=w':=by
 have hc:=h.c0
 go_enter Tryz.func71, Tryz.ntmps71
 go_wp2_with fail
 go_ret
 exact⟨rfl,rfl⟩
def fault (e:Int) (p:Nat):PanicEntry:={ v:=.iface 118 (.agg #[.int .i64 e,.int .i64 (p:Int)]),recovered:=false }
theorem check_ok (w:World) (b:Nat):Calls Tryz.prog 73 #[.pointer (some ⟨b,0,none⟩),.int .i64 0] w fun e w'=>e=.returned (.tuple #[])/\w=w':=by
 go_enter Tryz.func73, Tryz.ntmps73
 go_wp2_with fail
 go_end0
 exact⟨rfl,rfl⟩
theorem check_no (w:World) (b p:Nat) (s:ByteArray) (x:Int) (h:Ta w b s p) (hx:x≠0) :
  Calls Tryz.prog 73 #[.pointer (some ⟨b,0,none⟩),.int .i64 x] w fun e w'=>e=.panicked [fault x p]/\w=w':=by
 have hA:=Lib.hid (at_any w b p s h);have hb:(x==0)=false:=by rw[beq_eq_false_iff_ne];exact hx
 have hb2:(x != 0)=true:=by rw[bne_iff_ne];exact hx
 go_enter Tryz.func73, Tryz.ntmps73
 go_wp2_with fail
 refine hA.out.mono ?_;rintro e1 w1 ⟨rfl,rfl⟩;go_wp2_with fail
 exact⟨rfl,rfl,rfl⟩
set_option maxHeartbeats 3200000 in
theorem num_ok (w:World) (b p n len:Nat) (s:ByteArray) (h:Ta w b s p) (hs:s.size<=1000000) (hp:p<=s.size) (hg:Vi.gv 0 0 (s.data.toList.drop p)=(n,len,0)) :
  Calls Tryz.prog 36 #[.pointer (some ⟨b,0,none⟩)] w fun e w'=>e=.returned (.int .i64 (n:Int))/\w'=w.setCell ⟨b,1,none⟩ (.int .i64 ((p+len:Nat):Int)):=by
 have mixed:Tryz.prog.follows .mixedOrders=true:=by kernel_rfl
 have hl:s.data.toList.length=s.size:=rfl;have hgv:Vi.getV s.data.toList (p:Int)=((n:Int),((p+len:Nat):Int),0):=by
  unfold Vi.getV;rw[if_neg (by rw[hl];omega),Int.toNat_natCast,hg];simp
 have hv:=Vi.get_any s (p:Int) w hs;rw[hgv] at hv;have HV:=Lib.hid hv;have HT:=Lib.hid (text_any w b p s h);have HA:=Lib.hid (at_any w b p s h);have hc1:=h.c1;have hf1:=h.fz 1;have HC:=Lib.hid (check_ok w b);clear hl hgv hv h hg
 go_enter Tryz.func36, Tryz.ntmps36
 go_wp2_with fail
 refine HT.out.mono ?_;rintro e1 w1 ⟨rfl,rfl⟩;go_wp2_with fail
 refine HA.out.mono ?_;rintro e1 w1 ⟨rfl,rfl⟩;go_wp2_with fail
 refine HV.out.mono ?_;rintro e1 w1 ⟨rfl,rfl⟩;go_wp2_with fail
 refine HC.out.mono ?_;rintro e1 w1 ⟨rfl,rfl⟩;go_wp2_with fail
 go_ret
 exact⟨rfl,rfl⟩
set_option maxHeartbeats 3200000 in
theorem num_no (w:World) (b p:Nat) (s:ByteArray) (h:Ta w b s p) (hs:s.size<=1000000) (hp:p<=s.size) (hg:(Vi.gv 0 0 (s.data.toList.drop p)).2.2≠0) :
  Calls Tryz.prog 36 #[.pointer (some ⟨b,0,none⟩)] w fun e w'=>e=.panicked [fault (Vi.gv 0 0 (s.data.toList.drop p)).2.2 p]/\w=w':=by
 have mixed:Tryz.prog.follows .mixedOrders=true:=by kernel_rfl
 have hl:s.data.toList.length=s.size:=rfl;have hgv:Vi.getV s.data.toList (p:Int)=(0,0,(Vi.gv 0 0 (s.data.toList.drop p)).2.2):=by
  unfold Vi.getV;rw[if_neg (by rw[hl];omega),Int.toNat_natCast,if_neg hg]
 have hv:=Vi.get_any s (p:Int) w hs;rw[hgv] at hv;have HC:=Lib.hid (check_no w b p s _ h hg);generalize (Vi.gv 0 0 (s.data.toList.drop p)).2.2=x at *
 have HV:=Lib.hid hv;have HT:=Lib.hid (text_any w b p s h);have HA:=Lib.hid (at_any w b p s h);clear hl hgv hv h hg
 go_enter Tryz.func36, Tryz.ntmps36
 go_wp2_with fail
 refine HT.out.mono ?_;rintro e1 w1 ⟨rfl,rfl⟩;go_wp2_with fail
 refine HA.out.mono ?_;rintro e1 w1 ⟨rfl,rfl⟩;go_wp2_with fail
 refine HV.out.mono ?_;rintro e1 w1 ⟨rfl,rfl⟩;go_wp2_with fail
 refine HC.out.mono ?_;rintro e1 w1 ⟨rfl,rfl⟩;exact⟨rfl,rfl,rfl⟩
theorem left_any (w:World) (b p:Nat) (s:ByteArray) (h:Ta w b s p) (hs:s.size<=1000000) (hp:p<=s.size) :
  Calls Tryz.prog 75 #[.pointer (some ⟨b,0,none⟩)] w fun e w'=>e=.returned (.int .i64 ((s.size-p:Nat):Int))/\ ∃m,w'=w.drewN m:=by
 have mixed:Tryz.prog.follows .mixedOrders=true:=by kernel_rfl
 have hc0:=h.c0;have hc1:=h.c1;obtain⟨d,hd⟩:∃d,d=s.size-p:=⟨_,rfl⟩
 have e1:(s.size:Int)-(p:Int)=(d:Int):=by omega
 rw[<-hd];clear hd h
 go_enter Tryz.func75, Tryz.ntmps75
 go_wp2_with fail
 go_quiet (fail)
 go_wp2_with fail
 go_ret
 exact⟨rfl,_,rfl⟩
theorem extract_rest (s:ByteArray) (p:Nat):s.extract p s.size=⟨(s.data.toList.drop p).toArray⟩:=by
 apply ByteArray.ext
 apply Array.ext'
 rw[ByteArray.data_extract];rw[Array.toList_extract];simp[List.extract_eq_take_drop]
 rw[List.take_of_length_le];rw[List.length_drop];exact Nat.le_refl _
set_option maxHeartbeats 3200000 in
theorem ttext_any (w:World) (b p d:Nat) (s:ByteArray) (h:Ta w b s p) (hs:s.size<=1000000) (hd:p+d=s.size) :
  Calls Tryz.prog 74 #[.pointer (some ⟨b,0,none⟩),.int .i64 (d:Int)] w fun e w'=>e=.returned (.string ⟨(s.data.toList.drop p).toArray⟩)/\Frm w w' b none:=by
 have mixed:Tryz.prog.follows .mixedOrders=true:=by kernel_rfl
 have hL:=left_any w b p s h hs (by omega);rw[show s.size-p=d by omega] at hL;have HL:=Lib.hid hL;have hl:s.data.toList.length=s.size:=rfl;by_cases h0:d=0
 ·subst h0
  have hres:(⟨(s.data.toList.drop p).toArray⟩:ByteArray)=⟨#[]⟩:=by rw[List.drop_eq_nil_of_le (by rw[hl];omega)]
  have HR:=Lib.hid hres;clear hL h hres
  go_enter Tryz.func74, Tryz.ntmps74
  go_wp2_with fail
  refine HL.out.mono ?_;rintro e1 w1 ⟨rfl,m,rfl⟩;go_wp2_with fail
  go_ret
  exact⟨by rw[HR.out];rfl,⟨rfl,rfl,rfl,Nat.le_refl _,fun _ _ _ _=>rfl⟩⟩
 ·have hres:=extract_rest s p
  have HR:=Lib.hid hres;have H:Aside (Ta w b s p):=h;have hdp:(0:Int)<(d:Int):=by omega
  have hd0:((d:Int)==0)=false:=by rw[beq_eq_false_iff_ne];omega
  clear hL h hres
  go_enter Tryz.func74, Tryz.ntmps74
  go_wp2_with fail
  refine HL.out.mono ?_;rintro e1 w1 ⟨rfl,m,rfl⟩;have hta:Ta (w.drewN m) b s p:=H.out;have hc1:=hta.c1;have hf1:=hta.fz 1;have hta2:=hta.set1 s.size;have hd0':=hta2.c0;have hd1':=hta2.c1;have hfr:Frm w ((w.drewN m).setCell ⟨b,1,none⟩ (.int .i64 (s.size:Int))) b none:=(⟨rfl,rfl,rfl,Nat.le_refl _,fun _ _ _ _=>rfl⟩:Frm w (w.drewN m) b none).set 1 _;have e2:(p:Int)+(d:Int)=(s.size:Int):=by omega
  have e3:(s.size:Int)-(d:Int)=(p:Int):=by omega
  have HF:=Lib.hid hfr;clear hfr hta hta2;go_wp2_with fail
  generalize (w.drewN m).setCell ⟨b,1,none⟩ (.int .i64 (s.size:Int))=w2 at *
  have i1:(p:Int)<=(s.size:Int):=by omega
  have i2:((p:Int)).toNat=p:=by omega
  have i3:((s.size:Int)).toNat=s.size:=by omega
  clear hc1 hf1 e2;go_quiet (fail)
  go_wp2_with fail
  go_ret
  exact⟨by rw[<-HR.out];rfl,⟨HF.out.os,HF.out.tape,HF.out.output,HF.out.size,HF.out.blk⟩⟩
theorem rest_any (w:World) (b p:Nat) (s:ByteArray) (h:Ta w b s p) (hs:s.size<=1000000) (hp:p<=s.size) :
  Calls Tryz.prog 37 #[.pointer (some ⟨b,0,none⟩)] w fun e w'=>e=.returned (.string ⟨(s.data.toList.drop p).toArray⟩)/\Frm w w' b none:=by
 have mixed:Tryz.prog.follows .mixedOrders=true:=by kernel_rfl
 have HL:=Lib.hid (left_any w b p s h hs hp);have HT:=Lib.hid (fun m=>ttext_any (w.drewN m) b p (s.size-p) s h hs (by omega));clear h
 go_enter Tryz.func37, Tryz.ntmps37
 go_wp2_with fail
 refine HL.out.mono ?_;rintro e1 w1 ⟨rfl,m,rfl⟩;go_wp2_with fail
 refine(HT.out m).mono ?_;rintro e1 w1 ⟨rfl,hf⟩;have HF:=Lib.hid hf;clear hf;go_wp2_with fail
 go_ret
 exact⟨rfl,⟨HF.out.os,HF.out.tape,HF.out.output,HF.out.size,HF.out.blk⟩⟩
end Tk
end Go.Proofs.YtjligbmickfbdaaGreat
namespace Go.Proofs.YtjligbmickfbdaaGreat
namespace Tk
open Go.RowKit
open Bt (Frm)
structure Keep (w w':World) (L:List Nat):Prop where
 os:w'.os=w.os
 tape:w'.tape=w.tape
 output:w'.output=w.output
 size:w.heap.size<=w'.heap.size
 blk:∀k,k<w.heap.size->k∉L->w'.heap[k]? =w.heap[k]?
section
variable {w w' w2:World} {L L':List Nat}
theorem Keep.refl (w:World) (L:List Nat):Keep w w L:=⟨rfl,rfl,rfl,Nat.le_refl _,fun _ _ _=>rfl⟩
theorem Keep.trans (h:Keep w w' L) (k:Keep w' w2 L):Keep w w2 L :=
 ⟨k.os.trans h.os,k.tape.trans h.tape,k.output.trans h.output,Nat.le_trans h.size k.size,fun i hi hl=>(k.blk i (Nat.lt_of_lt_of_le hi h.size) hl).trans (h.blk i hi hl)⟩
theorem Keep.more (h:Keep w w' L) (hl:∀k∈L,k∈L'):Keep w w' L':=⟨h.os,h.tape,h.output,h.size,fun k hk hn=>h.blk k hk (fun e=>hn (hl k e))⟩
theorem Keep.set (h:Keep w w' L) (p:Addr) (hp:p.block∈L∨w.heap.size<=p.block) (u:Value):Keep w (w'.setCell p u) L :=
 ⟨h.os,h.tape,h.output,by simpa[World.setCell] using h.size,fun k hk hl=>(Below.heap_setCell w' p u k (by
  intro e;rcases hp with hp|hp
  ·rw[<-e] at hp;exact hl hp
  ·omega)).trans (h.blk k hk hl)⟩
theorem Keep.alloc (h:Keep w w' L) (o:Obj):Keep w (w'.alloc o) L :=
 ⟨h.os,h.tape,h.output,by have:=h.size;simp;omega,fun k hk hl=>(Below.heap_alloc w' o k (by have:=h.size;omega)).trans (h.blk k hk hl)⟩
theorem Keep.drew (h:Keep w w' L):Keep w w'.drew L:=⟨h.os,h.tape,h.output,h.size,h.blk⟩
theorem Keep.drewN (h:Keep w w' L) (n:Nat):Keep w (w'.drewN n) L:=⟨h.os,h.tape,h.output,h.size,h.blk⟩
theorem Keep.of_frm {b:Nat} (h:Frm w w' b none) (hb:b∈L):Keep w w' L:=⟨h.os,h.tape,h.output,h.size,fun k hk hl=>h.blk k hk (fun e=>hl (by rw[e];exact hb)) (by simp)⟩
theorem Keep.of_below (h:Below w.heap.size w w'):Keep w w' L:=⟨h.os,h.tape,h.output,h.size,fun k hk _=>h.block k hk⟩
theorem Keep.below {B:Nat} (h:Keep w w' L) (hB:B<=w.heap.size) (hl:∀k∈L,B<=k):Below B w w':=⟨h.os,h.tape,h.output,h.size,fun k hk=>h.blk k (by omega) (fun e=>by have:=hl k e;omega)⟩
theorem Keep.var {b:Nat} {t:TypeId} {v:Value} (h:Keep w w' L) (hv:Var w b t v) (hb:b∉L):Var w' b t v:=(h.blk b hv.lt hb).trans hv
theorem Keep.ta {b p:Nat} {s:ByteArray} (h:Keep w w' L) (hv:Ta w b s p) (hb:b∉L):Ta w' b s p:=(h.blk b hv.lt hb).trans hv
end
theorem tmps_idle (a b:Addr) (v:Value): #[Value.pointer (some a),Value.pointer (some b)]++((Array.replicate 18 undef).setIfInBounds 3 v).setIfInBounds 0 v= #[.pointer (some a),.pointer (some b),v,undef,undef,v,undef,undef,undef,undef,undef,undef,undef,undef,undef,undef,undef,undef,undef,undef]:=by kernel_rfl
set_option maxHeartbeats 3200000 in
theorem catch_idle (a b:Addr) (w:World) :
  CallsD Tryz.prog 76 #[.pointer (some a),.pointer (some b)] .returning w fun e u' w'=>e=.returned (.tuple #[])/\u'=.returning/\w'=w:=by
 refine callsD_of_wpS Tryz.func76 rfl fun c₀ cs hu=>?_
 apply wpS_seq
 apply wpS_region
 simp[wpOpsS,go_sem,recoverD,hu,Tryz.ntmps76,Exit.thenS]
 rw[tmps_idle];refine wpS_of_wp ?_;go_wp2_with fail
 cases c₀
 simp_all [bodyPostS,results,Tryz.results76]
theorem assert_ok (t:TypeId) (v:Value) (w:World):(Instr.typeAssert (.iface 118 v) t 118 true).run Tryz.prog w=.ok (.tuple #[v,.bool true]) w:=by
 simp[Instr.typeAssert,run_underlying Tryz.underlying118]
set_option maxHeartbeats 3200000 in
set_option maxRecDepth 100000 in
theorem catch_fault (ba bb:Nat) (x:Int) (p:Nat) (w:World) (u1 u2:Value) (h1:Var w ba 23 u1) (h2:Var w bb 3 u2) (hne:ba≠bb) :
  CallsD Tryz.prog 76 #[.pointer (some ⟨ba,0,none⟩),.pointer (some ⟨bb,0,none⟩)] (.panicking [fault x p]) w fun e u' w'=>e=.returned (.tuple #[])/\u'=.panicking [{ fault x p with recovered:=true }] /\
   Var w' ba 23 (.int .i64 x)/\Var w' bb 3 (.int .i64 (p:Int))/\Keep w w' [ba,bb]:=by
 have mixed:Tryz.prog.follows .mixedOrders=true:=by kernel_rfl
 refine callsD_of_wpS Tryz.func76 rfl fun c₀ cs hu=>?_
 apply wpS_seq
 apply wpS_region
 simp[wpOpsS,go_sem,recoverD,hu,Tryz.ntmps76,Exit.thenS,fault]
 rw[tmps_idle];refine wpS_of_wp ?_;have hta:=fun(t:TypeId) (w:World)=>assert_ok t (.agg #[.int .i64 x,.int .i64 (p:Int)]) w
 have hc1:=h1.cell;have hf1:=h1.frozen;have hc2:=h2.cell;have hf2:=h2.frozen;have hl1:=h1.lt;have hl2:=h2.lt;have HX:=Lib.hid (And.intro h1 h2);clear h1 h2;go_wp2_with fail
 go_region
 all_goals
  go_wp2_with fail
  cases c₀
  simp[bodyPostS,results,Tryz.results76]
  exact⟨(((HX.out.1.set_ _).far (p:=⟨bb,0,none⟩) hne _).alloc _).drew,(((HX.out.2.far (p:=⟨ba,0,none⟩) (Ne.symm hne) _).set_ _).alloc _).drew,
   ((((Keep.refl w [ba,bb]).set ⟨ba,0,none⟩ (.inl (by simp)) _).set ⟨bb,0,none⟩ (.inl (by simp)) _).alloc _).drew⟩
end Tk
end Go.Proofs.YtjligbmickfbdaaGreat
