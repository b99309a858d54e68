/- mani.Decode's closure, of the first manifest's bytes. -/
import Derived.Test.YtphfmgapiimliaaGreatSc41
import Derived.Test.YtphfmgapiimliaaGreatSc25
import Derived.Test.YtphfmgapiimliaaGreatSc35
import Derived.Deep.RegionHeld3
namespace Go.Proofs.YtphfmgapiimliaaGreat
namespace Md
open Go.RowKit Hd Rd Fm Sn Nf Dk Tk
open Go.Proofs.YtphfmgapiimliaaGreat.Op Go.Proofs.YtphfmgapiimliaaGreat.Rf
theorem run_storeRow5 {P:Program} (t:TypeId) (b:Nat) (w:World) (x y z u v:Value) (h:isRowAt w b=true) (ht:RowTy P t 5) (hc:(rowAt w b).size=5) (h1:AllOne #[x,y,z,u,v]) :
  (storeRow t (.pointer (some ⟨b,0,none⟩)) (.agg #[x,y,z,u,v])).run P w=.ok () (w.setRow b #[x,y,z,u,v]):=run_storeRow t b w _ h ht hc h1
theorem storeAt_mf (x y:Value):Instr.storeAt 26 x y=storeRow 26 x y:=rfl
theorem tyMf:RowTy Tryz.prog 26 5:=⟨mf_info,_,Tryz.underlying26⟩
structure Dj (w:World) (b bt bm:Nat) (s:ByteArray) (p:Nat) (cs:Array Value) (wx:World):Prop where
 ta:Ta wx b s p
 tk:Var wx bt 235 (.pointer (some ⟨b,0,none⟩))
 mf:Blk wx bm cs 26
 keep:Keep w wx [b,bm]
section
variable {w wx w':World} {b bt bm p q:Nat} {s:ByteArray} {cs:Array Value}
theorem Dj.step (h:Dj w b bt bm s p cs wx) (n1:b≠bt) (n2:b≠bm) (ht:Ta w' b s q) (hk:Keep wx w' [b]):Dj w b bt bm s q cs w' :=
 ⟨ht,hk.var h.tk (by simpa using Ne.symm n1),(hk.blk _ h.mf.lt (by simpa using Ne.symm n2)).trans h.mf,h.keep.trans (hk.more (by simp))⟩
theorem Dj.num (h:Dj w b bt bm s p cs wx) (n1:b≠bt) (n2:b≠bm) (hm:Mb s) (hp:p<14):Calls Tryz.prog 175 #[.pointer (some ⟨b,0,none⟩)] wx fun e w'=>e=.returned (.int .i64 (nv p:Int))/\Dj w b bt bm s (p+1) cs w':=by
 refine(num1 hm wx b p h.ta hp).mono ?_;rintro e w' ⟨rfl,h1,h2⟩;exact⟨rfl,h.step n1 n2 h1 h2⟩
end
attribute [local go_sem ↓] storeAt_mf
attribute [local go_sem] run_storeRow5
set_option maxHeartbeats 6400000 in
set_option maxRecDepth 100000 in
theorem dec1 {s:ByteArray} (hm:Mb s) (w:World) (b bt bm:Nat) (h:Dj w b bt bm s 0 #[.int .i64 0,.int .i64 0,.int .i64 0,.int .i64 0,.slice none 0 0] w) (n1:b≠bt) (n2:b≠bm) (n3:bt≠bm) :
  Calls Tryz.prog 174 #[.pointer (some ⟨bt,0,none⟩),.pointer (some ⟨bm,0,none⟩)] w fun e w'=>e=.returned (.tuple #[]) /\
   ∃G c,Blk w' bm #[.int .i64 1,.int .i64 2,.int .i64 0,.int .i64 1,.slice (some ⟨G,0,none⟩) 1 c] 26/\w'.ownsRow w.heap.size 48 9 (.slice (some ⟨G,0,none⟩) 1 c) 1 (flS [e1])/\Keep w w' [b,bm]:=by
 have mixed:Tryz.prog.follows .mixedOrders=true:=by kernel_rfl
 have HNN:=Lib.hid (And.intro n1 (And.intro n2 n3));have HN0:=Lib.hid (show ∀wx,Dj w b bt bm s 0 #[.int .i64 0,.int .i64 0,.int .i64 0,.int .i64 0,.slice none 0 0] wx->Calls Tryz.prog 175 #[.pointer (some ⟨b,0,none⟩)] wx fun e w'=>e=.returned (.int .i64 1)/\Dj w b bt bm s 1 #[.int .i64 0,.int .i64 0,.int .i64 0,.int .i64 0,.slice none 0 0] w' from fun wx hj=>hj.num n1 n2 hm (by omega));have HN1:=Lib.hid (show ∀wx,Dj w b bt bm s 1 #[.int .i64 0,.int .i64 0,.int .i64 0,.int .i64 0,.slice none 0 0] wx->Calls Tryz.prog 175 #[.pointer (some ⟨b,0,none⟩)] wx fun e w'=>e=.returned (.int .i64 2)/\Dj w b bt bm s 2 #[.int .i64 0,.int .i64 0,.int .i64 0,.int .i64 0,.slice none 0 0] w' from fun wx hj=>hj.num n1 n2 hm (by omega));have HN2:=Lib.hid (show ∀wx,Dj w b bt bm s 2 #[.int .i64 0,.int .i64 0,.int .i64 0,.int .i64 0,.slice none 0 0] wx->Calls Tryz.prog 175 #[.pointer (some ⟨b,0,none⟩)] wx fun e w'=>e=.returned (.int .i64 0)/\Dj w b bt bm s 3 #[.int .i64 0,.int .i64 0,.int .i64 0,.int .i64 0,.slice none 0 0] w' from fun wx hj=>hj.num n1 n2 hm (by omega));have HN3:=Lib.hid (show ∀wx,Dj w b bt bm s 3 #[.int .i64 0,.int .i64 0,.int .i64 0,.int .i64 0,.slice none 0 0] wx->Calls Tryz.prog 175 #[.pointer (some ⟨b,0,none⟩)] wx fun e w'=>e=.returned (.int .i64 1)/\Dj w b bt bm s 4 #[.int .i64 0,.int .i64 0,.int .i64 0,.int .i64 0,.slice none 0 0] w' from fun wx hj=>hj.num n1 n2 hm (by omega));have HN4:=Lib.hid (show ∀wx,Dj w b bt bm s 4 #[.int .i64 1,.int .i64 2,.int .i64 0,.int .i64 1,.slice none 0 0] wx->Calls Tryz.prog 175 #[.pointer (some ⟨b,0,none⟩)] wx fun e w'=>e=.returned (.int .i64 1)/\Dj w b bt bm s 5 #[.int .i64 1,.int .i64 2,.int .i64 0,.int .i64 1,.slice none 0 0] w' from fun wx hj=>hj.num n1 n2 hm (by omega));have HAT:=Lib.hid (show ∀wx,Dj w b bt bm s 4 #[.int .i64 1,.int .i64 2,.int .i64 0,.int .i64 1,.slice none 0 0] wx->Calls Tryz.prog 176 #[.pointer (some ⟨b,0,none⟩)] wx fun e w'=>e=.returned (.int .i64 4)/\wx=w' from fun wx hj=>at_any wx b 4 s hj.ta);have HEN:=Lib.hid (fun(wx:World) (ht:Ta wx b s 5)=>entry1 hm wx b ht);have HED:=Lib.hid (show ∀wx,Ta wx b s 14->Calls Tryz.prog 178 #[.pointer (some ⟨b,0,none⟩)] wx fun e w'=>e=.returned (.tuple #[])/\ ∃m,w'=wx.drewN m from fun wx ht=>end_ok wx b s (by rw[hm.size];exact ht) (by rw[hm.size];omega));have HJ0:=Lib.hid (show Dj w b bt bm s 0 #[.int .i64 0,.int .i64 0,.int .i64 0,.int .i64 0,.slice none 0 0] w.drew from⟨h.ta,h.tk,h.mf,h.keep.drew⟩);have HS:=Lib.hid (fun(p:Nat) (cs:Array Value) (hcs:cs.size=5) (wx:World) (h:Dj w b bt bm s p cs wx)=>show(fun wx:World=>wx.cell? ⟨bt,0,none⟩=some (.pointer (some ⟨b,0,none⟩))/\isRowAt wx bm=true/\(rowAt wx bm).size=5) wx from
  ⟨h.tk.cell,h.mf.rowAt.1,by rw[h.mf.rowAt.2];exact hcs⟩)
 have hS0:=HS.out 0 _ rfl _ HJ0.out;have one:AllOne #[.int .i64 1,.int .i64 2,.int .i64 0,.int .i64 1,.slice none 0 0]:=by unfold AllOne;simp[Value.oneCell']
 have ty:=tyMf;clear h n1 n2 n3 hm
 go_enter Tryz.func174, Tryz.ntmps174
 go_wp2_with fail
 refine wp_region_held_drew (S:=fun wx:World=>wx.cell? ⟨bt,0,none⟩=some (.pointer (some ⟨b,0,none⟩))/\isRowAt wx bm=true/\(rowAt wx bm).size=5) (by kernel_rfl) hS0 (fun hHeld=>?_);refine wpAnyH_take (i:=0) (v:=.pointer (some ⟨bt,0,none⟩)) rfl (by kernel_rfl) (by kernel_rfl) (by kernel_rfl) (fun _ _ _ h=>h) (Or.inl ⟨by rfl,by(intro w hSw;(try dsimp only at hSw);go_simp)⟩) (by assumption) ?_
 try simp only[Act.put,List.setIfInBounds_toArray,List.set_cons_zero,List.set_cons_succ]
 refine wpAnyH_take (i:=1) (v:=.pointer (some ⟨b,0,none⟩)) rfl (by kernel_rfl) (by kernel_rfl) (by kernel_rfl) (fun _ _ _ h=>h) (Or.inl ⟨by rfl,by(intro w hSw;(try dsimp only at hSw);go_simp)⟩) (by assumption) ?_
 try simp only[Act.put,List.setIfInBounds_toArray,List.set_cons_zero,List.set_cons_succ]
 refine wpAnyH_take (i:=3) (v:=.pointer (some ⟨bt,0,none⟩)) rfl (by kernel_rfl) (by kernel_rfl) (by kernel_rfl) (fun _ _ _ h=>h) (Or.inl ⟨by rfl,by(intro w hSw;(try dsimp only at hSw);go_simp)⟩) (by assumption) ?_
 try simp only[Act.put,List.setIfInBounds_toArray,List.set_cons_zero,List.set_cons_succ]
 refine wpAnyH_take (i:=4) (v:=.pointer (some ⟨b,0,none⟩)) rfl (by kernel_rfl) (by kernel_rfl) (by kernel_rfl) (fun _ _ _ h=>h) (Or.inl ⟨by rfl,by(intro w hSw;(try dsimp only at hSw);go_simp)⟩) (by assumption) ?_
 try simp only[Act.put,List.setIfInBounds_toArray,List.set_cons_zero,List.set_cons_succ]
 refine wpAnyH_take (i:=6) (v:=.pointer (some ⟨bt,0,none⟩)) rfl (by kernel_rfl) (by kernel_rfl) (by kernel_rfl) (fun _ _ _ h=>h) (Or.inl ⟨by rfl,by(intro w hSw;(try dsimp only at hSw);go_simp)⟩) (by assumption) ?_
 try simp only[Act.put,List.setIfInBounds_toArray,List.set_cons_zero,List.set_cons_succ]
 refine wpAnyH_take (i:=7) (v:=.pointer (some ⟨b,0,none⟩)) rfl (by kernel_rfl) (by kernel_rfl) (by kernel_rfl) (fun _ _ _ h=>h) (Or.inl ⟨by rfl,by(intro w hSw;(try dsimp only at hSw);go_simp)⟩) (by assumption) ?_
 try simp only[Act.put,List.setIfInBounds_toArray,List.set_cons_zero,List.set_cons_succ]
 refine wpAnyH_take (i:=9) (v:=.pointer (some ⟨bt,0,none⟩)) rfl (by kernel_rfl) (by kernel_rfl) (by kernel_rfl) (fun _ _ _ h=>h) (Or.inl ⟨by rfl,by(intro w hSw;(try dsimp only at hSw);go_simp)⟩) (by assumption) ?_
 try simp only[Act.put,List.setIfInBounds_toArray,List.set_cons_zero,List.set_cons_succ]
 refine wpAnyH_take (i:=10) (v:=.pointer (some ⟨b,0,none⟩)) rfl (by kernel_rfl) (by kernel_rfl) (by kernel_rfl) (fun _ _ _ h=>h) (Or.inl ⟨by rfl,by(intro w hSw;(try dsimp only at hSw);go_simp)⟩) (by assumption) ?_
 try simp only[Act.put,List.setIfInBounds_toArray,List.set_cons_zero,List.set_cons_succ]
 refine wpAnyH_ready (rs:=[2]) (by kernel_rfl) (by simp) ?_;refine AllReadyH.cons rfl (fun K hK=>?_) AllReadyH.nil;go_simp
 refine(HN0.out _ HJ0.out).mono ?_;rintro e1 w1 ⟨rfl,h1⟩;have H1:=Lib.hid h1;have hS1:=HS.out _ _ rfl _ h1;clear h1;refine hK.out _ _ hS1 (fun hHeld=>?_);clear hK K
 try simp only[Act.put,List.setIfInBounds_toArray,List.set_cons_zero,List.set_cons_succ]
 refine wpAnyH_ready (rs:=[5]) (by kernel_rfl) (by simp) ?_;refine AllReadyH.cons rfl (fun K hK=>?_) AllReadyH.nil;go_simp
 refine(HN1.out _ H1.out).mono ?_;rintro e2 w2 ⟨rfl,h2⟩;have H2:=Lib.hid h2;have hS2:=HS.out _ _ rfl _ h2;clear h2;refine hK.out _ _ hS2 (fun hHeld=>?_);clear hK K
 try simp only[Act.put,List.setIfInBounds_toArray,List.set_cons_zero,List.set_cons_succ]
 refine wpAnyH_ready (rs:=[8]) (by kernel_rfl) (by simp) ?_;refine AllReadyH.cons rfl (fun K hK=>?_) AllReadyH.nil;go_simp
 refine(HN2.out _ H2.out).mono ?_;rintro e3 w3 ⟨rfl,h3⟩;have H3:=Lib.hid h3;have hS3:=HS.out _ _ rfl _ h3;clear h3;refine hK.out _ _ hS3 (fun hHeld=>?_);clear hK K
 try simp only[Act.put,List.setIfInBounds_toArray,List.set_cons_zero,List.set_cons_succ]
 refine wpAnyH_ready (rs:=[11]) (by kernel_rfl) (by simp) ?_;refine AllReadyH.cons rfl (fun K hK=>?_) AllReadyH.nil;go_simp
 refine(HN3.out _ H3.out).mono ?_;rintro e4 w4 ⟨rfl,h4⟩;have H4:=Lib.hid h4;have hS4:=HS.out _ _ rfl _ h4;have h5:Dj w b bt bm s 4 #[.int .i64 1,.int .i64 2,.int .i64 0,.int .i64 1,.slice none 0 0] (w4.setRow bm #[.int .i64 1,.int .i64 2,.int .i64 0,.int .i64 1,.slice none 0 0]) :=
  ⟨(setRow_other w4 bm b _ HNN.out.2.1).trans h4.ta,(setRow_other w4 bm bt _ HNN.out.2.2).trans h4.tk,h4.mf.set _,h4.keep.setRow (by simp) _⟩
 have hS5:=HS.out _ _ rfl _ h5;have H5:=Lib.hid h5;clear h4 h5;refine hK.out _ _ hS4 (fun hHeld=>?_);clear hK K
 try simp only[Act.put,List.setIfInBounds_toArray,List.set_cons_zero,List.set_cons_succ]
 refine wpAnyH_take (i:=12) (v:=.agg #[.int .i64 1,.int .i64 2,.int .i64 0,.int .i64 1,.slice none 0 0]) rfl (by kernel_rfl) (by kernel_rfl) (by kernel_rfl) (fun _ _ _ h=>h) (Or.inl ⟨by rfl,by(intro w hSw;(try dsimp only at hSw);go_simp)⟩) (by assumption) ?_
 try simp only[Act.put,List.setIfInBounds_toArray,List.set_cons_zero,List.set_cons_succ]
 refine wpAnyH_ready (rs:=[13]) (by kernel_rfl) (by simp) ?_;refine AllReadyH.cons rfl (fun K hK=>?_) AllReadyH.nil;go_simp
 refine hK.out _ _ hS5 (fun _=>?_);clear hK K hS0 hS1 hS2 hS3 hS4 hS5 HJ0 H1 H2 H3 H4 HN0 HN1 HN2 HN3 one ty;refine wpAnyH_done (by kernel_rfl) ?_ _;generalize w4.setRow bm #[.int .i64 1,.int .i64 2,.int .i64 0,.int .i64 1,.slice none 0 0]=w5 at *
 have HJ5:=Lib.hid (show Dj w b bt bm s 4 #[.int .i64 1,.int .i64 2,.int .i64 0,.int .i64 1,.slice none 0 0] w5.drew from⟨H5.out.ta,H5.out.tk,H5.out.mf,H5.out.keep.drew⟩);have hS5:=HS.out 4 _ rfl _ HJ5.out;clear H5;go_wp2_with fail
 refine wp_region_held_drew (S:=fun wx:World=>wx.cell? ⟨bt,0,none⟩=some (.pointer (some ⟨b,0,none⟩))/\isRowAt wx bm=true/\(rowAt wx bm).size=5) (by kernel_rfl) hS5 (fun hHeld=>?_);refine wpAnyH_take (i:=0) (v:=.pointer (some ⟨bt,0,none⟩)) rfl (by kernel_rfl) (by kernel_rfl) (by kernel_rfl) (fun _ _ _ h=>h) (Or.inl ⟨by rfl,by(intro w hSw;(try dsimp only at hSw);go_simp)⟩) (by assumption) ?_
 try simp only[Act.put,List.setIfInBounds_toArray,List.set_cons_zero,List.set_cons_succ]
 refine wpAnyH_take (i:=1) (v:=.pointer (some ⟨b,0,none⟩)) rfl (by kernel_rfl) (by kernel_rfl) (by kernel_rfl) (fun _ _ _ h=>h) (Or.inl ⟨by rfl,by(intro w hSw;(try dsimp only at hSw);go_simp)⟩) (by assumption) ?_
 try simp only[Act.put,List.setIfInBounds_toArray,List.set_cons_zero,List.set_cons_succ]
 refine wpAnyH_take (i:=3) (v:=.pointer (some ⟨bt,0,none⟩)) rfl (by kernel_rfl) (by kernel_rfl) (by kernel_rfl) (fun _ _ _ h=>h) (Or.inl ⟨by rfl,by(intro w hSw;(try dsimp only at hSw);go_simp)⟩) (by assumption) ?_
 try simp only[Act.put,List.setIfInBounds_toArray,List.set_cons_zero,List.set_cons_succ]
 refine wpAnyH_take (i:=4) (v:=.pointer (some ⟨b,0,none⟩)) rfl (by kernel_rfl) (by kernel_rfl) (by kernel_rfl) (fun _ _ _ h=>h) (Or.inl ⟨by rfl,by(intro w hSw;(try dsimp only at hSw);go_simp)⟩) (by assumption) ?_
 try simp only[Act.put,List.setIfInBounds_toArray,List.set_cons_zero,List.set_cons_succ]
 refine wpAnyH_ready (rs:=[2]) (by kernel_rfl) (by simp) ?_;refine AllReadyH.cons rfl (fun K hK=>?_) AllReadyH.nil;go_simp
 refine(HAT.out _ HJ5.out).mono ?_;rintro e6 w6 ⟨rfl,rfl⟩;refine hK.out _ _ hS5 (fun hHeld=>?_);clear hK K
 try simp only[Act.put,List.setIfInBounds_toArray,List.set_cons_zero,List.set_cons_succ]
 refine wpAnyH_ready (rs:=[5]) (by kernel_rfl) (by simp) ?_;refine AllReadyH.cons rfl (fun K hK=>?_) AllReadyH.nil;go_simp
 refine(HN4.out _ HJ5.out).mono ?_;rintro e7 w7 ⟨rfl,h7⟩;have H7:=Lib.hid h7;have hS7:=HS.out _ _ rfl _ h7;clear h7;refine hK.out _ _ hS7 (fun hHeld=>?_);clear hK K
 try simp only[Act.put,List.setIfInBounds_toArray,List.set_cons_zero,List.set_cons_succ]
 refine wpAnyH_take (i:=6) (v:=.int .i64 4) rfl (by kernel_rfl) (by kernel_rfl) (by kernel_rfl) (fun _ _ _ h=>h) (Or.inl ⟨by rfl,by(intro w hSw;(try dsimp only at hSw);go_simp)⟩) (by assumption) ?_
 try simp only[Act.put,List.setIfInBounds_toArray,List.set_cons_zero,List.set_cons_succ]
 refine wpAnyH_take (i:=7) (v:=.int .i64 1) rfl (by kernel_rfl) (by kernel_rfl) (by kernel_rfl) (fun _ _ _ h=>h) (Or.inl ⟨by rfl,by(intro w hSw;(try dsimp only at hSw);go_simp)⟩) (by assumption) ?_
 try simp only[Act.put,List.setIfInBounds_toArray,List.set_cons_zero,List.set_cons_succ]
 refine wpAnyH_done (by kernel_rfl) ?_ _;clear hS5 hS7 HJ5 HN4 HAT;go_wp2_with fail
 have HF:=Lib.hid (fun(wx:World) (G c B:Nat) (hB:w.heap.size<=B) (h1:Ta wx b s 14) (h2:Var wx bt 235 (.pointer (some ⟨b,0,none⟩))) (h3:Blk wx bm #[.int .i64 1,.int .i64 2,.int .i64 0,.int .i64 1,.slice (some ⟨G,0,none⟩) 1 c] 26) (h4:wx.ownsRow B 48 9 (.slice (some ⟨G,0,none⟩) 1 c) 1 (flS [e1])) (h5:Keep w wx [b,bm])=>show Dj w b bt bm s 14 #[.int .i64 1,.int .i64 2,.int .i64 0,.int .i64 1,.slice (some ⟨G,0,none⟩) 1 c] wx/\wx.ownsRow w.heap.size 48 9 (.slice (some ⟨G,0,none⟩) 1 c) 1 (flS [e1]) from⟨⟨h1,h2,h3,h5⟩,own_lower h4 hB⟩);go_loopw [29] (fun s29 wr=>(s29=.int .i64 0/\wr=w7)∨(s29=.int .i64 1/\ ∃G c,Hid (Dj w b bt bm s 14 #[.int .i64 1,.int .i64 2,.int .i64 0,.int .i64 1,.slice (some ⟨G,0,none⟩) 1 c] wr/\wr.ownsRow w.heap.size 48 9 (.slice (some ⟨G,0,none⟩) 1 c) 1 (flS [e1])))) (fun v _=>1-(intOf v).toNat)
 case atStart=>exact .inl ⟨by go_num,rfl⟩
 case round =>
  rcases hrel with ⟨rfl,rfl⟩|⟨rfl,G,c,HX⟩
  ·have cbt:=H7.out.tk.cell
   have cm4:=H7.out.mf.cell 4 (v:=.slice none 0 0) rfl;have HT:=Lib.hid (show Ta wr.drew b s 5 from H7.out.ta);have HM:=Lib.hid (show Blk wr.drew bm #[.int .i64 1,.int .i64 2,.int .i64 0,.int .i64 1,.slice none 0 0] 26 from H7.out.mf);have HV:=Lib.hid (show Var wr.drew bt 235 (.pointer (some ⟨b,0,none⟩)) from H7.out.tk);have HK:=Lib.hid (show Keep w wr.drew [b,bm] from H7.out.keep.drew);have HCL:=Lib.hid (fun(w8:World) (k8:Keep wr.drew w8 [b])=>show Var w8 bt 235 (.pointer (some ⟨b,0,none⟩))/\Blk w8 bm #[.int .i64 1,.int .i64 2,.int .i64 0,.int .i64 1,.slice none 0 0] 26/\Keep w w8 [b,bm] from⟨k8.var HV.out (by have:=HNN.out.1;simp;omega),(k8.blk _ HM.out.lt (by have:=HNN.out.2.1;simp;omega)).trans HM.out,HK.out.trans (k8.more (by simp))⟩);go_wp2_with fail
   have HSZ:=Lib.hid (fun(w8:World) (k:Keep w w8 [b,bm])=>k.size);have HGB:=Lib.hid (fun(w8:World) {w9:World} {G c:Nat} {l:List Value} {cs:Array Value} (hb:Blk w8 bm cs 26) (ho:w9.ownsRow w8.heap.size 48 9 (.slice (some ⟨G,0,none⟩) 1 c) 1 l) (e:G=bm)=>show False from by
    have h1:=(World.ownsRow.lt ho G rfl).1;have h2:=hb.lt;omega)
   have HNIL:=Lib.hid (fun(w0:World) (B:Nat)=>World.ownsRow_nil w0 B 48 9);have HRV:=Lib.hid (fun(w8:World)=>rdV_new (sz:=9) 48 w8 [.int .i64 1,.int .i64 1,.int .i64 1,.bool false,.int .i64 0,.int .i64 0,.int .i64 0,.int .i64 0,.int .i64 0] rfl);have HNO:=Lib.hid (fun(g:Nat) (h:some (⟨g,0,none⟩:Addr)=none)=>show(1:Nat)=0 from by cases h);have HONE:=Lib.hid (show ∀u∈([.int .i64 1,.int .i64 1,.int .i64 1,.bool false,.int .i64 0,.int .i64 0,.int .i64 0,.int .i64 0,.int .i64 0]:List Value),u.oneCell'=true from by intro u hu;simp only[List.mem_cons,List.not_mem_nil,or_false] at hu;rcases hu with rfl|rfl|rfl|rfl|rfl|rfl|rfl|rfl|rfl<;>rfl);have HLE:=Lib.hid (fun(w8:World)=>show w8.heap.size<=(w8.alloc (.cells [.int .i64 1,.int .i64 1,.int .i64 1,.bool false,.int .i64 0,.int .i64 0,.int .i64 0,.int .i64 0,.int .i64 0].toArray 48)).heap.size by simp);have hS0:wr.drew.cell? ⟨bt,0,none⟩=some (.pointer (some ⟨b,0,none⟩)):=cbt;refine wp_region_held_drew (S:=(fun wx:World=>wx.cell? ⟨bt,0,none⟩=some (.pointer (some ⟨b,0,none⟩)))) (by kernel_rfl) hS0 (fun hHeld=>?_);refine wpAnyH_take (i:=0) (v:=.pointer (some ⟨bm,4,none⟩)) rfl (by kernel_rfl) (by kernel_rfl) (by kernel_rfl) (fun _ _ _ h=>h) (Or.inl ⟨by rfl,by(intro w hSw;(try dsimp only at hSw);go_simp)⟩) (by assumption) ?_
   try simp only[Act.put,List.setIfInBounds_toArray,List.set_cons_zero,List.set_cons_succ]
   refine wpAnyH_take (i:=2) (v:=.agg #[.pointer (some ⟨b,0,none⟩)]) rfl (by kernel_rfl) (by kernel_rfl) (by kernel_rfl) (fun _ _ _ h=>h) (Or.inl ⟨by rfl,by(intro w hSw;(try dsimp only at hSw);go_simp)⟩) (by assumption) ?_
   try simp only[Act.put,List.setIfInBounds_toArray,List.set_cons_zero,List.set_cons_succ]
   refine wpAnyH_ready (rs:=[1,3]) (by kernel_rfl) (by simp) ?_;refine AllReadyH.cons rfl (fun K hK=>?_) (AllReadyH.cons rfl (fun K hK=>?_) AllReadyH.nil)
   ·go_simp
    refine hK.out _ _ hS0 (fun hHeld=>?_);clear hK K
    try simp only[Act.put,List.setIfInBounds_toArray,List.set_cons_zero,List.set_cons_succ]
    refine wpAnyH_ready (rs:=[3]) (by kernel_rfl) (by simp) ?_;refine AllReadyH.cons rfl (fun K hK=>?_) AllReadyH.nil;go_simp
    refine(HEN.out _ HT.out).mono ?_;rintro e8 w8 ⟨rfl,ht8,k8⟩;have hc8:=HCL.out w8 k8;have x4:=hc8.2.1.cell 4 (v:=.slice none 0 0) rfl;have x4b:=(hc8.2.1.alloc (.cells #[.int .i64 1,.int .i64 1,.int .i64 1,.bool false,.int .i64 0,.int .i64 0,.int .i64 0,.int .i64 0,.int .i64 0] 48)).cell 4 (v:=.slice none 0 0) rfl;have hS8:=hc8.1.cell;have hS8b:=(hc8.1.alloc (.cells #[.int .i64 1,.int .i64 1,.int .i64 1,.bool false,.int .i64 0,.int .i64 0,.int .i64 0,.int .i64 0,.int .i64 0] 48)).cell;have HC8:=Lib.hid (And.intro ht8 hc8);clear ht8 k8 hc8;refine hK.out _ _ hS8 (fun hHeld=>?_);clear hK K
    try simp only[Act.put,List.setIfInBounds_toArray,List.set_cons_zero,List.set_cons_succ]
    refine wpAnyH_ready (rs:=[4]) (by kernel_rfl) (by simp) ?_;refine AllReadyH.cons rfl (fun K hK=>?_) AllReadyH.nil;go_simp
    refine hK.out _ _ hS8b (fun hHeld=>?_);clear hK K
    try simp only[Act.put,List.setIfInBounds_toArray,List.set_cons_zero,List.set_cons_succ]
    refine wpAnyH_ready (rs:=[5]) (by kernel_rfl) (by simp) ?_;refine AllReadyH.cons rfl (fun K hK=>?_) AllReadyH.nil;refine step_appV enEl (.tmp 32) (.tmp 35) rfl rfl (HNIL.out _ _) (HRV.out w8) (HNO.out w8.heap.size) HONE.out (by decide) (by decide) (HLE.out w8) (by rfl) (by rfl) ?_;intro v9 w9 hown9 hb9 hg9;obtain⟨A9,c9,rfl,-,-⟩:=own_slice hown9;obtain⟨g9,rfl⟩:∃g9,A9=some ⟨g9,0,none⟩:=Sv.own_some hown9;have hq9:=(ext_alloc w8 (.cells #[.int .i64 1,.int .i64 1,.int .i64 1,.bool false,.int .i64 0,.int .i64 0,.int .i64 0,.int .i64 0,.int .i64 0] 48)).trans hb9;have hm9:=HC8.out.2.2.1.ext hq9;have y4:=hm9.cell 4 (v:=.slice none 0 0) rfl;have z4:=hm9.fz 4;have hv9:=HC8.out.2.1.below hq9 HC8.out.2.1.lt;have hS9:=hv9.cell;have hS9b:=(hv9.far (p:=⟨bm,4,none⟩) HNN.out.2.2 (.slice (some ⟨g9,0,none⟩) 1 c9)).cell;clear hv9;have HO9:=Lib.hid (And.intro hown9 (And.intro hq9 hm9));clear hown9 hb9 hg9 hq9 hm9 x4 x4b;refine hK.out _ _ hS9 (fun hHeld=>?_);clear hK K
    try simp only[Act.put,List.setIfInBounds_toArray,List.set_cons_zero,List.set_cons_succ]
    refine wpAnyH_take (i:=6) (v:=.pointer (some ⟨bm,4,none⟩)) rfl (by kernel_rfl) (by kernel_rfl) (by kernel_rfl) (fun _ _ _ h=>h) (Or.inl ⟨by rfl,by(intro w hSw;(try dsimp only at hSw);go_simp)⟩) (by assumption) ?_
    try simp only[Act.put,List.setIfInBounds_toArray,List.set_cons_zero,List.set_cons_succ]
    refine wpAnyH_ready (rs:=[7]) (by kernel_rfl) (by simp) ?_;refine AllReadyH.cons rfl (fun K hK=>?_) AllReadyH.nil;go_simp
    refine hK.out _ _ hS9b (fun _=>?_);refine wpAnyH_done (by kernel_rfl) ?_ _;have HP:=Lib.hid (HF.out (w9.setCell ⟨bm,4,none⟩ (.slice (some ⟨g9,0,none⟩) 1 c9)) g9 c9 w8.heap.size (HSZ.out w8 HC8.out.2.2.2) (((HO9.out.2.1.block b HC8.out.1.lt).trans HC8.out.1 |> fun h=>(show Ta w9 b s 14 from h)).far HNN.out.2.1 4 _) ((HC8.out.2.1.below HO9.out.2.1 HC8.out.2.1.lt).far (p:=⟨bm,4,none⟩) HNN.out.2.2 _) (HO9.out.2.2.put 4 _) (own_setCell_far HO9.out.1 (a:=⟨bm,4,none⟩) (fun e=>HGB.out w8 HC8.out.2.2.1 HO9.out.1 (by simpa[Value.ownBlock] using e)) _) ((HC8.out.2.2.2.trans (Keep.of_below HO9.out.2.1)).set ⟨bm,4,none⟩ (.inl (by simp)) _));clear hS0 hS8 hS8b hS9 hS9b;go_wp2_with fail
    exact⟨.inr ⟨rfl,g9,c9,HP⟩,by simp[intOf]⟩
   ·go_simp
    refine(HEN.out _ HT.out).mono ?_;rintro e8 w8 ⟨rfl,ht8,k8⟩;have hc8:=HCL.out w8 k8;have x4:=hc8.2.1.cell 4 (v:=.slice none 0 0) rfl;have x4b:=(hc8.2.1.alloc (.cells #[.int .i64 1,.int .i64 1,.int .i64 1,.bool false,.int .i64 0,.int .i64 0,.int .i64 0,.int .i64 0,.int .i64 0] 48)).cell 4 (v:=.slice none 0 0) rfl;have hS8:=hc8.1.cell;have hS8b:=(hc8.1.alloc (.cells #[.int .i64 1,.int .i64 1,.int .i64 1,.bool false,.int .i64 0,.int .i64 0,.int .i64 0,.int .i64 0,.int .i64 0] 48)).cell;have HC8:=Lib.hid (And.intro ht8 hc8);clear ht8 k8 hc8;refine hK.out _ _ hS8 (fun hHeld=>?_);clear hK K
    try simp only[Act.put,List.setIfInBounds_toArray,List.set_cons_zero,List.set_cons_succ]
    refine wpAnyH_ready (rs:=[1,4]) (by kernel_rfl) (by simp) ?_;refine AllReadyH.cons rfl (fun K hK=>?_) (AllReadyH.cons rfl (fun K hK=>?_) AllReadyH.nil)
    ·go_simp
     refine hK.out _ _ hS8 (fun hHeld=>?_);clear hK K
     try simp only[Act.put,List.setIfInBounds_toArray,List.set_cons_zero,List.set_cons_succ]
     refine wpAnyH_ready (rs:=[4]) (by kernel_rfl) (by simp) ?_;refine AllReadyH.cons rfl (fun K hK=>?_) AllReadyH.nil;go_simp
     refine hK.out _ _ hS8b (fun hHeld=>?_);clear hK K
     try simp only[Act.put,List.setIfInBounds_toArray,List.set_cons_zero,List.set_cons_succ]
     refine wpAnyH_ready (rs:=[5]) (by kernel_rfl) (by simp) ?_;refine AllReadyH.cons rfl (fun K hK=>?_) AllReadyH.nil;refine step_appV enEl (.tmp 32) (.tmp 35) rfl rfl (HNIL.out _ _) (HRV.out w8) (HNO.out w8.heap.size) HONE.out (by decide) (by decide) (HLE.out w8) (by rfl) (by rfl) ?_;intro v9 w9 hown9 hb9 hg9;obtain⟨A9,c9,rfl,-,-⟩:=own_slice hown9;obtain⟨g9,rfl⟩:∃g9,A9=some ⟨g9,0,none⟩:=Sv.own_some hown9;have hq9:=(ext_alloc w8 (.cells #[.int .i64 1,.int .i64 1,.int .i64 1,.bool false,.int .i64 0,.int .i64 0,.int .i64 0,.int .i64 0,.int .i64 0] 48)).trans hb9;have hm9:=HC8.out.2.2.1.ext hq9;have y4:=hm9.cell 4 (v:=.slice none 0 0) rfl;have z4:=hm9.fz 4;have hv9:=HC8.out.2.1.below hq9 HC8.out.2.1.lt;have hS9:=hv9.cell;have hS9b:=(hv9.far (p:=⟨bm,4,none⟩) HNN.out.2.2 (.slice (some ⟨g9,0,none⟩) 1 c9)).cell;clear hv9;have HO9:=Lib.hid (And.intro hown9 (And.intro hq9 hm9));clear hown9 hb9 hg9 hq9 hm9 x4 x4b;refine hK.out _ _ hS9 (fun hHeld=>?_);clear hK K
     try simp only[Act.put,List.setIfInBounds_toArray,List.set_cons_zero,List.set_cons_succ]
     refine wpAnyH_take (i:=6) (v:=.pointer (some ⟨bm,4,none⟩)) rfl (by kernel_rfl) (by kernel_rfl) (by kernel_rfl) (fun _ _ _ h=>h) (Or.inl ⟨by rfl,by(intro w hSw;(try dsimp only at hSw);go_simp)⟩) (by assumption) ?_
     try simp only[Act.put,List.setIfInBounds_toArray,List.set_cons_zero,List.set_cons_succ]
     refine wpAnyH_ready (rs:=[7]) (by kernel_rfl) (by simp) ?_;refine AllReadyH.cons rfl (fun K hK=>?_) AllReadyH.nil;go_simp
     refine hK.out _ _ hS9b (fun _=>?_);refine wpAnyH_done (by kernel_rfl) ?_ _;have HP:=Lib.hid (HF.out (w9.setCell ⟨bm,4,none⟩ (.slice (some ⟨g9,0,none⟩) 1 c9)) g9 c9 w8.heap.size (HSZ.out w8 HC8.out.2.2.2) (((HO9.out.2.1.block b HC8.out.1.lt).trans HC8.out.1 |> fun h=>(show Ta w9 b s 14 from h)).far HNN.out.2.1 4 _) ((HC8.out.2.1.below HO9.out.2.1 HC8.out.2.1.lt).far (p:=⟨bm,4,none⟩) HNN.out.2.2 _) (HO9.out.2.2.put 4 _) (own_setCell_far HO9.out.1 (a:=⟨bm,4,none⟩) (fun e=>HGB.out w8 HC8.out.2.2.1 HO9.out.1 (by simpa[Value.ownBlock] using e)) _) ((HC8.out.2.2.2.trans (Keep.of_below HO9.out.2.1)).set ⟨bm,4,none⟩ (.inl (by simp)) _));clear hS0 hS8 hS8b hS9 hS9b;go_wp2_with fail
     exact⟨.inr ⟨rfl,g9,c9,HP⟩,by simp[intOf]⟩
    ·go_simp
     refine hK.out _ _ hS8b (fun hHeld=>?_);clear hK K
     try simp only[Act.put,List.setIfInBounds_toArray,List.set_cons_zero,List.set_cons_succ]
     refine wpAnyH_ready (rs:=[1]) (by kernel_rfl) (by simp) ?_;refine AllReadyH.cons rfl (fun K hK=>?_) AllReadyH.nil;go_simp
     refine hK.out _ _ hS8b (fun hHeld=>?_);clear hK K
     try simp only[Act.put,List.setIfInBounds_toArray,List.set_cons_zero,List.set_cons_succ]
     refine wpAnyH_ready (rs:=[5]) (by kernel_rfl) (by simp) ?_;refine AllReadyH.cons rfl (fun K hK=>?_) AllReadyH.nil;refine step_appV enEl (.tmp 32) (.tmp 35) rfl rfl (HNIL.out _ _) (HRV.out w8) (HNO.out w8.heap.size) HONE.out (by decide) (by decide) (HLE.out w8) (by rfl) (by rfl) ?_;intro v9 w9 hown9 hb9 hg9;obtain⟨A9,c9,rfl,-,-⟩:=own_slice hown9;obtain⟨g9,rfl⟩:∃g9,A9=some ⟨g9,0,none⟩:=Sv.own_some hown9;have hq9:=(ext_alloc w8 (.cells #[.int .i64 1,.int .i64 1,.int .i64 1,.bool false,.int .i64 0,.int .i64 0,.int .i64 0,.int .i64 0,.int .i64 0] 48)).trans hb9;have hm9:=HC8.out.2.2.1.ext hq9;have y4:=hm9.cell 4 (v:=.slice none 0 0) rfl;have z4:=hm9.fz 4;have hv9:=HC8.out.2.1.below hq9 HC8.out.2.1.lt;have hS9:=hv9.cell;have hS9b:=(hv9.far (p:=⟨bm,4,none⟩) HNN.out.2.2 (.slice (some ⟨g9,0,none⟩) 1 c9)).cell;clear hv9;have HO9:=Lib.hid (And.intro hown9 (And.intro hq9 hm9));clear hown9 hb9 hg9 hq9 hm9 x4 x4b;refine hK.out _ _ hS9 (fun hHeld=>?_);clear hK K
     try simp only[Act.put,List.setIfInBounds_toArray,List.set_cons_zero,List.set_cons_succ]
     refine wpAnyH_take (i:=6) (v:=.pointer (some ⟨bm,4,none⟩)) rfl (by kernel_rfl) (by kernel_rfl) (by kernel_rfl) (fun _ _ _ h=>h) (Or.inl ⟨by rfl,by(intro w hSw;(try dsimp only at hSw);go_simp)⟩) (by assumption) ?_
     try simp only[Act.put,List.setIfInBounds_toArray,List.set_cons_zero,List.set_cons_succ]
     refine wpAnyH_ready (rs:=[7]) (by kernel_rfl) (by simp) ?_;refine AllReadyH.cons rfl (fun K hK=>?_) AllReadyH.nil;go_simp
     refine hK.out _ _ hS9b (fun _=>?_);refine wpAnyH_done (by kernel_rfl) ?_ _;have HP:=Lib.hid (HF.out (w9.setCell ⟨bm,4,none⟩ (.slice (some ⟨g9,0,none⟩) 1 c9)) g9 c9 w8.heap.size (HSZ.out w8 HC8.out.2.2.2) (((HO9.out.2.1.block b HC8.out.1.lt).trans HC8.out.1 |> fun h=>(show Ta w9 b s 14 from h)).far HNN.out.2.1 4 _) ((HC8.out.2.1.below HO9.out.2.1 HC8.out.2.1.lt).far (p:=⟨bm,4,none⟩) HNN.out.2.2 _) (HO9.out.2.2.put 4 _) (own_setCell_far HO9.out.1 (a:=⟨bm,4,none⟩) (fun e=>HGB.out w8 HC8.out.2.2.1 HO9.out.1 (by simpa[Value.ownBlock] using e)) _) ((HC8.out.2.2.2.trans (Keep.of_below HO9.out.2.1)).set ⟨bm,4,none⟩ (.inl (by simp)) _));clear hS0 hS8 hS8b hS9 hS9b;go_wp2_with fail
     exact⟨.inr ⟨rfl,g9,c9,HP⟩,by simp[intOf]⟩
  ·have cbt:=HX.out.1.tk.cell
   go_wp2_with (go_at_call 178;refine(HED.out _ HX.out.1.ta).mono ?_;rintro e8 w8 ⟨rfl,m,rfl⟩)
   go_end0
   exact⟨rfl,G,c,HX.out.1.mf,HX.out.2,HX.out.1.keep.drewN m⟩
end Md
end Go.Proofs.YtphfmgapiimliaaGreat
