/- head.Get of the bytes of a header that may be. salvage.begun of a segment's file that is a header alone. -/
import Derived.Test.YtphfmgapiimliaaGreatSc33
import Derived.Test.YtphfmgapiimliaaGreatSc04
import Derived.Test.YtphfmgapiimliaaGreatSc26
import Derived.Deep.RegionHeld3
import Derived.Deep.Cut
import Derived.Test.YtphfmgapiimliaaGreatSc32
import Derived.Test.YtphfmgapiimliaaGreatSc25
import Derived.Deep.RegionWith
namespace Go.Proofs.YtphfmgapiimliaaGreat
open Go.RowKit
theorem drew_setRow (w:World) (k:Nat) (z:Array Value):w.drew.setRow k z=(w.setRow k z).drew:=rfl
def AllOne (z:Array Value):Prop:=z.all (·.oneCell')=true
def storeRow (t:TypeId) (x y:Value):Sem Unit:=Instr.storeAt t x y
theorem run_storeRow {P:Program} (t:TypeId) (b:Nat) (w:World) (z:Array Value) (h:isRowAt w b=true) (ht:RowTy P t z.size) (hc:(rowAt w b).size=z.size) (h1:AllOne z) :
  (storeRow t (.pointer (some ⟨b,0,none⟩)) (.agg z)).run P w=.ok () (w.setRow b z):=by
 obtain⟨hi,fs,hu⟩:=ht;have hb:∃cs t',w.heap[b]? =some (.cells cs t' (0,0)):=by
  unfold isRowAt at h;split at h
  ·exact⟨_,_,by assumption⟩
  ·cases h
 obtain⟨cs,t',hb⟩:=hb;have e:rowAt w b=cs:=by unfold rowAt;simp only[hb]
 rw[e] at hc;unfold storeRow;simp only[Instr.storeAt,Instr.sureAddr,Sem.run_bind,Sem.run_pure,Result.andThen_ok,run_storeVar_row w b t' t cs z hb hi hc h1]
theorem run_storeRow3 {P:Program} (t:TypeId) (b:Nat) (w:World) (x y z:Value) (h:isRowAt w b=true) (ht:RowTy P t 3) (hc:(rowAt w b).size=3) (h1:AllOne #[x,y,z]) :
  (storeRow t (.pointer (some ⟨b,0,none⟩)) (.agg #[x,y,z])).run P w=.ok () (((w.setCell ⟨b,0,none⟩ x).setCell ⟨b,1,none⟩ y).setCell ⟨b,2,none⟩ z):=by
 rw[run_storeRow t b w #[x,y,z] h ht hc h1];congr 1;have hb:∃cs t' fr,w.heap[b]? =some (.cells cs t' fr)/\rowAt w b=cs:=by
  unfold isRowAt at h;split at h
  ·rename_i cs t' hb
   exact⟨cs,t',(0,0),hb,by unfold rowAt;simp only[hb]⟩
  ·cases h
 obtain⟨cs,t',fr,hb,e⟩:=hb;rw[e] at hc;unfold World.setRow World.setCell;congr 1;apply Array.ext_getElem?
 intro k;simp only[Array.getElem?_modify];by_cases hk:b=k
 ·subst hk
  simp only[if_true,hb,Option.map_some,Option.isSome_none,Bool.false_eq_true,if_false];congr 2
  match cs,hc with
  |⟨[p,q,r]⟩,_=>rfl
 ·simp only[if_neg hk]
namespace Tk
theorem storeAt_head (x y:Value):Instr.storeAt 35 x y=storeRow 35 x y:=rfl
attribute [local go_sem ↓] storeAt_head
attribute [local go_sem] run_storeRow3
theorem tyHead:RowTy Tryz.prog 35 3:=⟨by kernel_rfl,_,Tryz.underlying35⟩
theorem Keep.setRow {w w':World} {L:List Nat} (h:Keep w w' L) {k:Nat} (hk:k∈L) (z:Array Value):Keep w (w'.setRow k z) L :=
 ⟨h.os,h.tape,h.output,by rw[size_setRow];exact h.size,fun j hj hn=>(setRow_other w' k j z (fun e=>hn (e▸hk))).trans (h.blk j hj hn)⟩
theorem Ta.far {w:World} {b p k:Nat} {s:ByteArray} (h:Ta w b s p) (hk:b≠k) (j:Nat) (v:Value):Ta (w.setCell ⟨k,j,none⟩ v) b s p:=(Below.heap_setCell w ⟨k,j,none⟩ v b hk).trans h
structure Hg (w0:World) (b bn bh bt:Nat) (s:ByteArray) (p:Nat) (w:World):Prop where
 ta:Ta w b s p
 num:Var w bn 236 (.func (.func 175) #[.pointer (some ⟨b,0,none⟩)] #[])
 tk:Var w bt 232 (.pointer (some ⟨b,0,none⟩))
 hd:Blk w bh #[.int .i64 0,.int .i64 0,.int .i64 0] 35
 keep:Keep w0 w [b,bh]
theorem Hg.num_ {w0 w:World} {b bn bh bt:Nat} {s:ByteArray} {p n len:Nat} (q:Nat) (h:Hg w0 b bn bh bt s p w) (n1:b≠bn) (n2:b≠bh) (n3:b≠bt) (hs:s.size<=1000000) (hp:p<=s.size) (hq:q=p+len) (hg:Vi.gv 0 0 (s.data.toList.drop p)=(n,len,0)) :
  Calls Tryz.prog 175 #[.pointer (some ⟨b,0,none⟩)] w fun e w'=>e=.returned (.int .i64 (n:Int))/\Hg w0 b bn bh bt s q w':=by
 subst hq;refine(num_ok w b p n len s h.ta hs hp hg).mono ?_;rintro e w' ⟨rfl,rfl⟩;exact⟨rfl,h.ta.set1 _,h.num.far (p:=⟨b,1,none⟩) (Ne.symm n1) _,h.tk.far (p:=⟨b,1,none⟩) (Ne.symm n3) _,h.hd.setCell (Ne.symm n2) _,h.keep.set ⟨b,1,none⟩ (.inl (by simp)) _⟩
set_option maxHeartbeats 6400000 in
set_option maxRecDepth 100000 in
theorem getC_any (w:World) (b bn bh bt:Nat) (s:ByteArray) (i g f l0 l1 l2:Nat) (h:Hg w b bn bh bt s 0 w) (n1:b≠bn) (n2:b≠bh) (n3:b≠bt) (n4:bh≠bn) (n5:bh≠bt)
  (hs:s.size=l0+l1+l2) (hz:s.size<=1000000) (h0:Vi.gv 0 0 (s.data.toList.drop 0)=(i,l0,0)) (h1:Vi.gv 0 0 (s.data.toList.drop l0)=(g,l1,0)) (h2:Vi.gv 0 0 (s.data.toList.drop (l0+l1))=(f,l2,0)) :
  Calls Tryz.prog 205 #[.pointer (some ⟨bn,0,none⟩),.pointer (some ⟨bh,0,none⟩),.pointer (some ⟨bt,0,none⟩)] w fun e w'=>e=.returned (.tuple #[]) /\
   Ta w' b s s.size/\Blk w' bh #[.int .i64 (i:Int),.int .i64 (g:Int),.int .i64 (f:Int)] 35/\Keep w w' [b,bh]:=by
 have mixed:Tryz.prog.follows .mixedOrders=true:=by kernel_rfl
 have HE:=Lib.hid (fun(wx:World) (h:Hg w b bn bh bt s 0 wx)=>h.num_ l0 n1 n2 n3 hz (Nat.zero_le _) (by omega) h0);have HF:=Lib.hid (fun(wx:World) (h:Hg w b bn bh bt s l0 wx)=>h.num_ (l0+l1) n1 n2 n3 hz (by omega) rfl h1);have HG:=Lib.hid (fun(wx:World) (h:Hg w b bn bh bt s (l0+l1) wx)=>h.num_ s.size n1 n2 n3 hz (by omega) hs h2);have H0:=Lib.hid (show Hg w b bn bh bt s 0 w.drew from⟨h.ta,h.num,h.tk,h.hd,h.keep.drew⟩);have HN:=Lib.hid (And.intro n2 (And.intro n4 n5));have Hz:=Lib.hid hz;have c1:=h.num.cell;clear h h0 h1 h2 hs hz n1 n2 n3 n4 n5;have one:AllOne #[.int .i64 (i:Int),.int .i64 (g:Int),.int .i64 (f:Int)]:=by unfold AllOne;simp[Value.oneCell']
 have ty:=tyHead;have HS:=Lib.hid (fun(p:Nat) (wx:World) (h:Hg w b bn bh bt s p wx)=>show(fun wx:World=>wx.cell? ⟨bn,0,none⟩=some (.func (.func 175) #[.pointer (some ⟨b,0,none⟩)] #[])/\isRowAt wx bh=true/\(rowAt wx bh).size=3) wx from
  ⟨h.num.cell,h.hd.rowAt.1,by rw[h.hd.rowAt.2];rfl⟩)
 have HSS:=Lib.hid (fun(wx:World) (h:Hg w b bn bh bt s s.size wx)=>show(fun wx:World=>wx.cell? ⟨bn,0,none⟩=some (.func (.func 175) #[.pointer (some ⟨b,0,none⟩)] #[])/\isRowAt wx bh=true/\(rowAt wx bh).size=3) (((wx.setCell ⟨bh,0,none⟩ (.int .i64 (i:Int))).setCell ⟨bh,1,none⟩ (.int .i64 (g:Int))).setCell ⟨bh,2,none⟩ (.int .i64 (f:Int))) from
  have q:=((h.hd.put 0 (.int .i64 (i:Int))).put 1 (.int .i64 (g:Int))).put 2 (.int .i64 (f:Int))
  ⟨Var.cell (((h.num.far (p:=⟨bh,0,none⟩) (Ne.symm HN.out.2.1) _).far (p:=⟨bh,1,none⟩) (Ne.symm HN.out.2.1) _).far (p:=⟨bh,2,none⟩) (Ne.symm HN.out.2.1) _),q.rowAt.1,by rw[q.rowAt.2];rfl⟩)
 have hS0:=HS.out 0 _ H0.out
 go_enter Tryz.func205, Tryz.ntmps205
 go_wp2_with fail
 clear c1;refine wp_region_held_drew (S:=fun wx:World=>wx.cell? ⟨bn,0,none⟩=some (.func (.func 175) #[.pointer (some ⟨b,0,none⟩)] #[])/\isRowAt wx bh=true/\(rowAt wx bh).size=3) (by kernel_rfl) hS0 (fun hHeld=>?_);refine wpAnyH_take (i:=0) (v:=.func (.func 175) #[.pointer (some ⟨b,0,none⟩)] #[]) rfl (by kernel_rfl) (by kernel_rfl) (by kernel_rfl) (fun _ _ _ h=>h) (Or.inl ⟨by rfl,by(intro w hSw;(try dsimp only at hSw);go_simp)⟩) (by assumption) ?_
 try simp only[Act.put,List.setIfInBounds_toArray,List.set_cons_zero,List.set_cons_succ]
 refine wpAnyH_take (i:=2) (v:=.func (.func 175) #[.pointer (some ⟨b,0,none⟩)] #[]) rfl (by kernel_rfl) (by kernel_rfl) (by kernel_rfl) (fun _ _ _ h=>h) (Or.inl ⟨by rfl,by(intro w hSw;(try dsimp only at hSw);go_simp)⟩) (by assumption) ?_
 try simp only[Act.put,List.setIfInBounds_toArray,List.set_cons_zero,List.set_cons_succ]
 refine wpAnyH_take (i:=4) (v:=.func (.func 175) #[.pointer (some ⟨b,0,none⟩)] #[]) rfl (by kernel_rfl) (by kernel_rfl) (by kernel_rfl) (fun _ _ _ h=>h) (Or.inl ⟨by rfl,by(intro w hSw;(try dsimp only at hSw);go_simp)⟩) (by assumption) ?_
 try simp only[Act.put,List.setIfInBounds_toArray,List.set_cons_zero,List.set_cons_succ]
 refine wpAnyH_ready (rs:=[1]) (by kernel_rfl) (by simp) ?_;refine AllReadyH.cons rfl (fun K hK=>?_) AllReadyH.nil;go_simp
 refine(HE.out _ H0.out).mono ?_;rintro e1 w1 ⟨rfl,h1⟩;have H1:=Lib.hid h1;have hS1:=HS.out _ _ h1;clear h1;refine hK.out _ _ hS1 (fun hHeld=>?_);clear hK K
 try simp only[Act.put,List.setIfInBounds_toArray,List.set_cons_zero,List.set_cons_succ]
 refine wpAnyH_ready (rs:=[3]) (by kernel_rfl) (by simp) ?_;refine AllReadyH.cons rfl (fun K hK=>?_) AllReadyH.nil;go_simp
 refine(HF.out _ H1.out).mono ?_;rintro e2 w2 ⟨rfl,h2⟩;have H2:=Lib.hid h2;have hS2:=HS.out _ _ h2;clear h2;refine hK.out _ _ hS2 (fun hHeld=>?_);clear hK K
 try simp only[Act.put,List.setIfInBounds_toArray,List.set_cons_zero,List.set_cons_succ]
 refine wpAnyH_ready (rs:=[5]) (by kernel_rfl) (by simp) ?_;refine AllReadyH.cons rfl (fun K hK=>?_) AllReadyH.nil;go_simp
 refine(HG.out _ H2.out).mono ?_;rintro e3 w3 ⟨rfl,h3⟩;have H3:=Lib.hid h3;have hS3:=HS.out _ _ h3;have hS4:=HSS.out _ h3;clear h3;refine hK.out _ _ hS3 (fun hHeld=>?_);clear hK K
 try simp only[Act.put,List.setIfInBounds_toArray,List.set_cons_zero,List.set_cons_succ]
 refine wpAnyH_take (i:=6) (v:=.agg #[.int .i64 (i:Int),.int .i64 (g:Int),.int .i64 (f:Int)]) rfl (by kernel_rfl) (by kernel_rfl) (by kernel_rfl) (fun _ _ _ h=>h) (Or.inl ⟨by rfl,by(intro w hSw;(try dsimp only at hSw);go_simp)⟩) (by assumption) ?_
 try simp only[Act.put,List.setIfInBounds_toArray,List.set_cons_zero,List.set_cons_succ]
 refine wpAnyH_ready (rs:=[7]) (by kernel_rfl) (by simp) ?_;refine AllReadyH.cons rfl (fun K hK=>?_) AllReadyH.nil;go_simp
 refine hK.out _ _ hS4 (fun _=>?_);clear hK K hS4 hS3 hS2 hS1 hS0 HSS HS HE HF HG H0 H1 H2 one ty;refine wpAnyH_done (by kernel_rfl) ?_ _;have HX:=Lib.hid (show Ta (((w3.setCell ⟨bh,0,none⟩ (.int .i64 (i:Int))).setCell ⟨bh,1,none⟩ (.int .i64 (g:Int))).setCell ⟨bh,2,none⟩ (.int .i64 (f:Int))) b s s.size from
  ((H3.out.ta.far HN.out.1 0 _).far HN.out.1 1 _).far HN.out.1 2 _)
 have HY:=Lib.hid (((H3.out.hd.put 0 (.int .i64 (i:Int))).put 1 (.int .i64 (g:Int))).put 2 (.int .i64 (f:Int)));have HK:=Lib.hid (((H3.out.keep.set ⟨bh,0,none⟩ (.inl (by simp)) (.int .i64 (i:Int))).set ⟨bh,1,none⟩ (.inl (by simp)) (.int .i64 (g:Int))).set ⟨bh,2,none⟩ (.inl (by simp)) (.int .i64 (f:Int)));have c2:=Var.cell (((H3.out.tk.far (p:=⟨bh,0,none⟩) (Ne.symm HN.out.2.2) (.int .i64 (i:Int))).far (p:=⟨bh,1,none⟩) (Ne.symm HN.out.2.2) (.int .i64 (g:Int))).far (p:=⟨bh,2,none⟩) (Ne.symm HN.out.2.2) (.int .i64 (f:Int)));clear H3;generalize ((w3.setCell ⟨bh,0,none⟩ (.int .i64 (i:Int))).setCell ⟨bh,1,none⟩ (.int .i64 (g:Int))).setCell ⟨bh,2,none⟩ (.int .i64 (f:Int))=w4 at *
 go_wp2_with (go_at_call 178;refine(end_ok w4 b s HX.out Hz.out).mono ?_;rintro e5 w5 ⟨rfl,m,rfl⟩)
 go_end0
 exact⟨rfl,HX.out,HY.out,HK.out.drewN m⟩
theorem store_val1 {P:Program} {w:World} {a:Addr} {v old:Value} (h1:v.oneCell'=true) (hc:w.cell? a=some old) (hf:w.frozen? a=false):(store a v).run P w=.ok () (w.setCell a v):=by
 rw[run_store P w a v _ h1,hc];simp[hf]
theorem keep_cut {w w' w2:World} {L:List Nat} (h:Below w.heap.size w w2) (k:Keep w2 w' L) (hl:∀x∈L,w.heap.size<=x):Below w.heap.size w w' :=
 h.trans (k.below h.size hl)
theorem hd_inf3:(Tryz.prog.info? 35).map (·.size)=some 3:=by kernel_rfl
set_option maxHeartbeats 6400000 in
set_option maxRecDepth 100000 in
theorem getHead (s:ByteArray) (hs:s.size=3) (h0:Vi.gv 0 0 (s.data.toList.drop 0)=(1,1,0)) (h1:Vi.gv 0 0 (s.data.toList.drop 1)=(1,1,0)) (h2:Vi.gv 0 0 (s.data.toList.drop 2)=(1,1,0)) (w:World) :
  Calls Tryz.prog 166 #[.string s] w fun e w'=>e=.returned (.tuple #[.agg #[.int .i64 1,.int .i64 1,.int .i64 1],.int .i64 0])/\Below w.heap.size w w':=by
 have mixed:Tryz.prog.follows .mixedOrders=true:=by kernel_rfl
 have HTN:=Lib.hid (fun wx=>takeNew_any s wx);have HCK:=fun wx=>Hd.check_any 1 1 1 wx
 rw[if_pos (show Hd.okH 1 1 1=true by decide)] at HCK;replace HCK:=Lib.hid HCK;have HCA:=Lib.hid (show ∀(wx:World) (b bt bn bh:Nat),Ta wx b s 0->Var wx bn 236 (.func (.func 175) #[.pointer (some ⟨b,0,none⟩)] #[])->Var wx bt 232 (.pointer (some ⟨b,0,none⟩))->Blk wx bh #[.int .i64 0,.int .i64 0,.int .i64 0] 35->(w.heap.size<b/\b<bt/\bt<bn/\bn<bh) ->
   Calls Tryz.prog 179 #[.func (.func 205) #[] #[.pointer (some ⟨bn,0,none⟩),.pointer (some ⟨bh,0,none⟩),.pointer (some ⟨bt,0,none⟩)]] wx fun e w'=>e=.returned (.tuple #[.int .i64 0,.int .i64 0])/\Blk w' bh #[.int .i64 1,.int .i64 1,.int .i64 1] 35/\Keep wx w' [b,bh] from fun wx b bt bn bh hTa hVn hVt hBh hne=>by
  have hbs:=hBh.lt;have hB:Below wx.heap.size wx (wC wx):=wC_keep wx;have hC:Hg (wC wx) b bn bh bt s 0 (wC wx):=⟨(hB.block b hTa.lt).trans hTa,hVn.below hB hVn.lt,hVt.below hB hVt.lt,hBh.ext hB,Keep.refl _ _⟩
  have hget:=getC_any (wC wx) b bn bh bt s 1 1 1 1 1 1 hC (by omega) (by omega) (by omega) (by omega) (by omega) (by omega) (by omega) h0 h1 h2;refine(caught_ok 205 wx #[.pointer (some ⟨bn,0,none⟩),.pointer (some ⟨bh,0,none⟩),.pointer (some ⟨bt,0,none⟩)] (fun w'=>Blk w' bh #[.int .i64 1,.int .i64 1,.int .i64 1] 35/\Keep (wC wx) w' [b,bh]) ?_ (enters_of Tryz.func205 (by kernel_rfl) rfl) ?_).mono ?_
  ·rintro w' ⟨-,k⟩
   obtain⟨v1,v2⟩:=wC_vars wx;exact⟨k.var v1 (by simp;omega),k.var v2 (by simp;omega)⟩
  ·refine hget.mono ?_
   rintro e w' ⟨rfl,-,q1,q2⟩;exact⟨rfl,q1,q2⟩
  ·rintro e w' ⟨rfl,w2,⟨q1,q2⟩,q3⟩
   refine⟨rfl,(q3.blk bh (by have:=q2.size;have:=hB.size;omega) (by simp;omega)).trans q1,?_⟩;refine⟨q3.os.trans (q2.os.trans hB.os),q3.tape.trans (q2.tape.trans hB.tape),q3.output.trans (q2.output.trans hB.output),Nat.le_trans hB.size (Nat.le_trans q2.size q3.size),fun k hk hl=>?_⟩;exact(q3.blk k (by have:=q2.size;have:=hB.size;omega) (by simp;omega)).trans ((q2.blk k (by have:=hB.size;omega) hl).trans (hB.block k hk)))
 clear h0 h1 h2 hs;have HR:=Lib.hid (Blk.new w #[.int .i64 0,.int .i64 0,.int .i64 0] 35);have HB:=Lib.hid (ext_alloc w (.cells #[.int .i64 0,.int .i64 0,.int .i64 0] 35))
 go_enter Tryz.func166, Tryz.ntmps166
 go_upto_region 1 with fail
 have hsz:(w.alloc (.cells #[.int .i64 0,.int .i64 0,.int .i64 0] 35)).heap.size=w.heap.size+1:=by simp
 have HSZ:=Lib.hid hsz;clear hsz;generalize w.alloc (.cells #[.int .i64 0,.int .i64 0,.int .i64 0] 35)=w0 at *
 go_upto_region 2 with (go_at_call 173;refine(HTN.out _).mono ?_;rintro e1 w1 ⟨rfl,ht1,hb1⟩;have HT1:=Lib.hid (And.intro ht1 hb1);clear ht1 hb1)
 have hw1:w0.heap.size<w1.heap.size:=HT1.out.1.lt;have HV2:=Lib.hid (Var.new w1 232 (.pointer (some ⟨w0.heap.size,0,none⟩)));have HT2:=Lib.hid (show Ta (w1.alloc (.cells #[.pointer (some ⟨w0.heap.size,0,none⟩)] 232)) w0.heap.size s 0 from(Below.heap_alloc w1 _ _ hw1).trans HT1.out.1);have HB2:=Lib.hid ((HB.out.trans (HT1.out.2.mono HB.out.size)).trans ((ext_alloc w1 (.cells #[.pointer (some ⟨w0.heap.size,0,none⟩)] 232)).mono (HB.out.trans (HT1.out.2.mono HB.out.size)).size));have HR2:=Lib.hid ((HR.out.ext HT1.out.2).alloc (.cells #[.pointer (some ⟨w0.heap.size,0,none⟩)] 232));have HO2:=Lib.hid (show w.heap.size<w0.heap.size/\w0.heap.size<w1.heap.size from⟨by have:=HSZ.out;omega,hw1⟩);clear hw1 HT1 HB HR HSZ HTN;generalize w1.alloc (.cells #[.pointer (some ⟨w0.heap.size,0,none⟩)] 232)=w2 at *
 generalize w0.heap.size=b at *
 generalize w1.heap.size=bt at *
 have c2:=HV2.out.cell;have vF:=Var.new w2 236 .nilFunc;have d1:=store_val1 (P:=Tryz.prog) (v:=.func (.func 175) #[.pointer (some ⟨b,0,none⟩)] #[]) rfl vF.cell vF.frozen;have hne1:=HT2.out.lt;have hne2:=HV2.out.lt;have hne3:=HR2.out.lt;clear vF;go_upto_region 3 with fail
 have HV3:=Lib.hid (Var.new w2 236 (.func (.func 175) #[.pointer (some ⟨b,0,none⟩)] #[]));have hb3:Below w2.heap.size w2 (w2.alloc (.cells #[.func (.func 175) #[.pointer (some ⟨b,0,none⟩)] #[]] 236)):=ext_alloc w2 _;have HT3:=Lib.hid (show Ta (w2.alloc (.cells #[.func (.func 175) #[.pointer (some ⟨b,0,none⟩)] #[]] 236)) b s 0 from(hb3.block _ hne1).trans HT2.out);have HU3:=Lib.hid (HV2.out.below hb3 hne2);have HB3:=Lib.hid (HB2.out.trans (hb3.mono HB2.out.size));have HR3:=Lib.hid (HR2.out.ext hb3);have HO3:=Lib.hid (show w.heap.size<b/\b<bt/\bt<w2.heap.size from⟨HO2.out.1,HO2.out.2,hne2⟩);clear c2 HV2 HT2 HB2 HR2 HO2 d1 hb3 hne1 hne2 hne3;generalize w2.alloc (.cells #[.func (.func 175) #[.pointer (some ⟨b,0,none⟩)] #[]] 236)=w3 at *
 generalize w2.heap.size=bn at *
 go_upto_region 4 with fail
 have HV4:=Lib.hid (HV3.out.alloc (.cells #[.int .i64 0,.int .i64 0,.int .i64 0] 35));have HT4:=Lib.hid (show Ta (w3.alloc (.cells #[.int .i64 0,.int .i64 0,.int .i64 0] 35)) b s 0 from(Below.heap_alloc w3 _ _ HT3.out.lt).trans HT3.out);have HU4:=Lib.hid (HU3.out.alloc (.cells #[.int .i64 0,.int .i64 0,.int .i64 0] 35));have HB4:=Lib.hid (HB3.out.trans ((ext_alloc w3 (.cells #[.int .i64 0,.int .i64 0,.int .i64 0] 35)).mono HB3.out.size));have HR4:=Lib.hid (HR3.out.alloc (.cells #[.int .i64 0,.int .i64 0,.int .i64 0] 35));have HH4:=Lib.hid (Blk.new w3 #[.int .i64 0,.int .i64 0,.int .i64 0] 35);have HO4:=Lib.hid (show w.heap.size<b/\b<bt/\bt<bn/\bn<w3.heap.size from⟨HO3.out.1,HO3.out.2.1,HO3.out.2.2,HV3.out.lt⟩);clear HV3 HT3 HU3 HB3 HR3 HO3;generalize w3.alloc (.cells #[.int .i64 0,.int .i64 0,.int .i64 0] 35)=w4 at *
 generalize w3.heap.size=bh at *
 go_upto_region 7 with (go_at_call 179;refine(HCA.out _ _ _ _ _ HT4.out HV4.out HU4.out HH4.out HO4.out).mono ?_;rintro e5 w5 ⟨rfl,hh5,hk5⟩;have HH5:=Lib.hid (And.intro hh5 hk5);clear hh5 hk5)
 have HB5:=Lib.hid (HB4.out.trans (HH5.out.2.below HB4.out.size (by have:=HO4.out;simp;omega)));have HR5:=Lib.hid (show Blk w5 w.heap.size #[.int .i64 0,.int .i64 0,.int .i64 0] 35 from(HH5.out.2.blk _ HR4.out.lt (by have:=HO4.out;simp;omega)).trans HR4.out);clear HV4 HT4 HU4 HB4 HR4 HH4 HCA;go_wp2_with (first
  |(refine wpList_load_row rfl 35 (.tmp 6) rfl bh #[.int .i64 1,.int .i64 1,.int .i64 1] _ (by simp[go_sem,Act.eval]) HH5.out.1 Tryz.underlying35 rfl hd_inf3 ?_)
  |(go_at_call 126;refine(HCK.out _).mono ?_;rintro e6 w6 ⟨rfl,hb6⟩;have HH6:=Lib.hid (HH5.out.1.ext hb6);have HR6:=Lib.hid (HR5.out.ext hb6);have HB6:=Lib.hid (HB5.out.trans (hb6.mono HB5.out.size));clear hb6)
  |(refine wpList_load_row rfl 35 (.tmp 6) rfl bh #[.int .i64 1,.int .i64 1,.int .i64 1] _ (by simp[go_sem,Act.eval]) HH6.out Tryz.underlying35 rfl hd_inf3 ?_)
  |(refine wpList_store_row rfl 35 (.tmp 2) (.tmp 29) rfl w.heap.size #[.int .i64 1,.int .i64 1,.int .i64 1] #[.int .i64 0,.int .i64 0,.int .i64 0] (by simp[go_sem,Act.eval]) (by simp[go_sem,Act.eval]) HR6.out hd_inf3 rfl (by simp[Value.oneCell']) ?_))
 refine bodyPost_ret (v:=.tuple #[.agg #[.int .i64 1,.int .i64 1,.int .i64 1],.int .i64 0]) (by exact results_cell2 rfl rfl rfl (HR6.out.set #[.int .i64 1,.int .i64 1,.int .i64 1]) Tryz.underlying35 rfl hd_inf3) (by exact rfl) ?_;exact⟨rfl,ext_setRow HB6.out (Nat.le_refl _) _⟩
end Tk
end Go.Proofs.YtphfmgapiimliaaGreat
namespace Go.Proofs.YtphfmgapiimliaaGreat
namespace Sv
open Go.RowKit Hd Rd Fm Sn Nf Dk Gp
open Go.Proofs.YtphfmgapiimliaaGreat.Op
theorem hb_sz:(Hd.hb 1 1 1).size=3:=by
 have:=hdr_size;have h2:(hdrB 1 1 1).size=(Hd.hb 1 1 1).size+9:=Op.frB_size 1 (Hd.hb 1 1 1);omega
theorem parse_seg:Nm.parseV (segN 1 1).data.toList=.tuple #[.int .i64 1,.int .i64 1,.bool true]:=Nm.parseV_some (l:=(segN 1 1).data.toList) (i:=1) (g:=1) (by decide)
theorem get_hdr (w:World):Calls Tryz.prog 128 #[.string (hdrB 1 1 1),.int .i64 0] w fun e w'=>e=.returned (.tuple #[.agg #[.int .i64 1,.string (Hd.hb 1 1 1),.int .i64 0,.int .i64 12],.int .i64 0])/\Below w.heap.size w w':=by
 refine(Fm.Get_any (hdrB 1 1 1) 0 w (by rw[hdr_size];omega) (by omega)).mono ?_;rintro e w' ⟨h,hb⟩;have:=frAns_put (k:=1) (b:=Hd.hb 1 1 1) (by decide) (by rw[hb_sz];omega) h;rw[hb_sz] at this;exact⟨this,hb⟩
set_option maxHeartbeats 6400000 in
set_option maxRecDepth 100000 in
theorem begun_x (HHG:Hid (∀wx,Calls Tryz.prog 166 #[.string (Hd.hb 1 1 1)] wx fun e w'=>e=.returned (.tuple #[.agg #[.int .i64 1,.int .i64 1,.int .i64 1],.int .i64 0])/\Below wx.heap.size wx w')) (w:World) :
  Calls Tryz.prog 120 #[.string (segN 1 1),.string (hdrB 1 1 1)] w fun e w'=>e=.returned (.tuple #[.agg #[.int .i64 1,.int .i64 1,.int .i64 1],.bool true])/\Below w.heap.size w w':=by
 have mixed:Tryz.prog.follows .mixedOrders=true:=by kernel_rfl
 have HPA:=fun wx=>Nm.parse_any (segN 1 1) wx
 rw[parse_seg] at HPA;replace HPA:=Lib.hid HPA;have HGT:=Lib.hid (fun wx=>get_hdr wx);generalize hdrB 1 1 1=T at *
 generalize segN 1 1=s at *
 generalize Hd.hb 1 1 1=H at *
 have HR:=Lib.hid (Blk.new w #[.int .i64 0,.int .i64 0,.int .i64 0] 35);have HB:=Lib.hid (ext_alloc w (.cells #[.int .i64 0,.int .i64 0,.int .i64 0] 35))
 go_enter Tryz.func120, Tryz.ntmps120
 go_upto_region 3 with (first
  |(go_at_call 165;refine(HPA.out _).mono ?_;rintro e1 w1 ⟨rfl,hb1⟩;have HB1:=Lib.hid (HB.out.trans (hb1.mono HB.out.size));have HR1:=Lib.hid (HR.out.ext hb1);clear hb1)
  |(go_at_call 128;refine(HGT.out _).mono ?_;rintro e2 w2 ⟨rfl,hb2⟩;have HB2:=Lib.hid ((HB1.out.trans (hb2.mono HB1.out.size)).trans ((ext_alloc w2 (.cells #[.int .i64 1,.string H,.int .i64 0,.int .i64 12] 177)).mono (HB1.out.trans (hb2.mono HB1.out.size)).size));have HR2:=Lib.hid ((HR1.out.ext hb2).alloc (.cells #[.int .i64 1,.string H,.int .i64 0,.int .i64 12] 177));have HF2:=Lib.hid (Blk.new w2 #[.int .i64 1,.string H,.int .i64 0,.int .i64 12] 177);clear hb2))
 have hlt:=HR1.out.lt;clear HB1 HR1 HB HR;generalize w2.alloc (.cells #[.int .i64 1,.string H,.int .i64 0,.int .i64 12] 177)=w3 at *
 generalize w2.heap.size=bf at *
 have f0:=HF2.out.cell 0 (v:=.int .i64 1) rfl;have f1:=HF2.out.cell 1 (v:=.string H) rfl;clear hlt;go_upto_region 6 with (go_at_call 166;refine(HHG.out _).mono ?_;rintro e4 w4 ⟨rfl,hb4⟩;have HB4:=Lib.hid ((HB2.out.trans (hb4.mono HB2.out.size)).trans ((ext_alloc w4 (.cells #[.int .i64 1,.int .i64 1,.int .i64 1] 35)).mono (HB2.out.trans (hb4.mono HB2.out.size)).size));have HR4:=Lib.hid ((HR2.out.ext hb4).alloc (.cells #[.int .i64 1,.int .i64 1,.int .i64 1] 35));have HH4:=Lib.hid (Blk.new w4 #[.int .i64 1,.int .i64 1,.int .i64 1] 35);have HN4:=Lib.hid (show w4.heap.size≠w.heap.size from Nat.ne_of_gt (HR2.out.ext hb4).lt);clear hb4 f0 f1)
 generalize w4.alloc (.cells #[.int .i64 1,.int .i64 1,.int .i64 1] 35)=w5 at *
 generalize w4.heap.size=bh at *
 have c0:=HH4.out.cell 0 (v:=.int .i64 1) rfl;have c1:=HH4.out.cell 1 (v:=.int .i64 1) rfl;have c2:=HH4.out.cell 2 (v:=.int .i64 1) rfl;have y0:=HR4.out.cell 0 (v:=.int .i64 0) rfl;have y1:=HR4.out.cell 1 (v:=.int .i64 0) rfl;have y2:=HR4.out.cell 2 (v:=.int .i64 0) rfl;have z0:=HR4.out.fz 0;have z1:=HR4.out.fz 1;have z2:=HR4.out.fz 2;have hne:=HN4.out;go_region
 have HR6:=Lib.hid (show Blk ((((w5.setCell ⟨w.heap.size,0,none⟩ (.int .i64 1)).setCell ⟨w.heap.size,1,none⟩ (.int .i64 1)).setCell ⟨w.heap.size,2,none⟩ (.int .i64 1)).drew) w.heap.size #[.int .i64 1,.int .i64 1,.int .i64 1] 35 from((HR4.out.put 0 (.int .i64 1)).put 1 (.int .i64 1)).put 2 (.int .i64 1));have HB6:=Lib.hid (show Below w.heap.size w ((((w5.setCell ⟨w.heap.size,0,none⟩ (.int .i64 1)).setCell ⟨w.heap.size,1,none⟩ (.int .i64 1)).setCell ⟨w.heap.size,2,none⟩ (.int .i64 1)).drew) from(((HB4.out.setCell (p:=⟨w.heap.size,0,none⟩) (Nat.le_refl _) _).setCell (p:=⟨w.heap.size,1,none⟩) (Nat.le_refl _) _).setCell (p:=⟨w.heap.size,2,none⟩) (Nat.le_refl _) _).drew);go_wp2_with fail
 refine bodyPost_ret (v:=.tuple #[.agg #[.int .i64 1,.int .i64 1,.int .i64 1],.bool true]) (by exact results_cell2 rfl rfl rfl HR6.out Tryz.underlying35 rfl hd_inf) (by exact rfl) ?_;exact⟨rfl,HB6.out⟩
theorem hb_list:(Hd.hb 1 1 1).data.toList=[1,1,1]:=by
 unfold Hd.hb;rw[Vi.putV_small (show 1<128 by decide)];rfl
theorem gv_one (c:UInt8) (h:c.toNat<128) (l:List UInt8):Vi.gv 0 0 (c::l)=(c.toNat,1,0):=by
 unfold Vi.gv;rw[if_neg (by omega),if_neg (by omega),if_neg (by omega)];simp
theorem begun_any (w:World):Calls Tryz.prog 120 #[.string (segN 1 1),.string (hdrB 1 1 1)] w fun e w'=>e=.returned (.tuple #[.agg #[.int .i64 1,.int .i64 1,.int .i64 1],.bool true])/\Below w.heap.size w w' :=
 begun_x (Lib.hid fun wx=>Tk.getHead (Hd.hb 1 1 1) hb_sz (by rw[hb_list];exact gv_one 1 (by decide) _) (by rw[hb_list];exact gv_one 1 (by decide) _) (by rw[hb_list];exact gv_one 1 (by decide) _) wx) w
end Sv
end Go.Proofs.YtphfmgapiimliaaGreat
