/- frame: known, get. frame: Put, Get. strings.HasPrefix; scan.begun. -/
import Derived.Test.YtphfmgapiimliaaGreatSc12
import Derived.Deep.RegionHeld3
import Derived.Test.YtphfmgapiimliaaGreatSc11
namespace Go.Proofs.YtphfmgapiimliaaGreat
namespace Fm
open Go.RowKit Cr
theorem known_yes (k:Nat) (w:World) (h:1<=k/\k<=4):Calls Tryz.prog 158 #[.int .i64 (k:Int)] w fun e w'=>e=.returned (.bool true)/\w=w':=by
 have h1:(1:Int)<=(k:Int):=by omega
 have h2:(k:Int)<=4:=by omega
 go_enter Tryz.func158, Tryz.ntmps158
 go_wp2_with fail
 go_ret
 exact⟨rfl,rfl⟩
theorem known_no (k:Nat) (w:World) (h: ¬ (1<=k/\k<=4)):Calls Tryz.prog 158 #[.int .i64 (k:Int)] w fun e w'=>e=.returned (.bool false)/\w=w':=by
 by_cases h1:(1:Int)<=(k:Int)
 ·have h2: ¬ (k:Int)<=4:=by omega
  go_enter Tryz.func158, Tryz.ntmps158
  go_wp2_with fail
  go_ret
  exact⟨rfl,rfl⟩
 ·go_enter Tryz.func158, Tryz.ntmps158
  go_wp2_with fail
  go_ret
  exact⟨rfl,rfl⟩
def fagg (k:Nat) (b:ByteArray) (p t:Nat):Value:=.agg #[.int .i64 (k:Int),.string b,.int .i64 (p:Int),.int .i64 (t:Int)]
def Fb (w:World) (g:Nat) (k:Int) (b:ByteArray) (p t:Int):Prop:=w.heap[g]? =some (.cells #[.int .i64 k,.string b,.int .i64 p,.int .i64 t] 177 (0,0))
section
variable {w w':World} {g:Nat} {k p t:Int} {b:ByteArray} (h:Fb w g k b p t)
include h
theorem Fb.lt:g<w.heap.size:=(Array.getElem?_eq_some_iff.1 h).1
theorem Fb.c0:w.cell? ⟨g,0,none⟩=some (.int .i64 k):=by rw[cell_of_row w g 0 _ _ (0,0) h];rfl
theorem Fb.c1:w.cell? ⟨g,1,none⟩=some (.string b):=by rw[cell_of_row w g 1 _ _ (0,0) h];rfl
theorem Fb.c2:w.cell? ⟨g,2,none⟩=some (.int .i64 p):=by rw[cell_of_row w g 2 _ _ (0,0) h];rfl
theorem Fb.c3:w.cell? ⟨g,3,none⟩=some (.int .i64 t):=by rw[cell_of_row w g 3 _ _ (0,0) h];rfl
theorem Fb.fz (j:Nat):w.frozen? ⟨g,j,none⟩=false:=frozen_of_row w g j _ _ h
theorem Fb.below {B:Nat} (hk:Below B w w') (hb:g<B):Fb w' g k b p t:=(hk.block g hb).trans h
theorem Fb.set0 (x:Int):Fb (w.setCell ⟨g,0,none⟩ (.int .i64 x)) g x b p t:=by
 unfold Fb at *;simp[World.setCell,Array.getElem?_modify,h]
theorem Fb.set1 (x:ByteArray):Fb (w.setCell ⟨g,1,none⟩ (.string x)) g k x p t:=by
 unfold Fb at *;simp[World.setCell,Array.getElem?_modify,h]
theorem Fb.set2 (x:Int):Fb (w.setCell ⟨g,2,none⟩ (.int .i64 x)) g k b x t:=by
 unfold Fb at *;simp[World.setCell,Array.getElem?_modify,h]
theorem Fb.set3 (x:Int):Fb (w.setCell ⟨g,3,none⟩ (.int .i64 x)) g k b p x:=by
 unfold Fb at *;simp[World.setCell,Array.getElem?_modify,h]
end
theorem Fb.new (w:World):Fb (w.alloc (.cells #[.int .i64 0,.string ⟨#[]⟩,.int .i64 0,.int .i64 0] 177)) w.heap.size 0 ⟨#[]⟩ 0 0:=heap_alloc_new w _
theorem Fb.fill {w:World} {g:Nat} {k p t:Int} {b:ByteArray} (h:Fb w g k b p t) (k' p' t':Int) (b':ByteArray) :
  Fb ((((w.setCell ⟨g,0,none⟩ (.int .i64 k')).setCell ⟨g,1,none⟩ (.string b')).setCell ⟨g,2,none⟩ (.int .i64 p')).setCell ⟨g,3,none⟩ (.int .i64 t')) g k' b' p' t':=(((h.set0 k').set1 b').set2 p').set3 t'
theorem below_fill4 {w w':World} {b B:Nat} {v0 v1 v2 v3:Value} (h:Below B w w') (hb:B<=b):Below B w ((((w'.setCell ⟨b,0,none⟩ v0).setCell ⟨b,1,none⟩ v1).setCell ⟨b,2,none⟩ v2).setCell ⟨b,3,none⟩ v3) :=
 (((h.setCell (p:=⟨b,0,none⟩) hb v0).setCell (p:=⟨b,1,none⟩) hb v1).setCell (p:=⟨b,2,none⟩) hb v2).setCell (p:=⟨b,3,none⟩) hb v3
def GF (s:ByteArray) (p:Nat):Prop :=
 p+5<=s.size/\(1<=by4 s.data.toList p/\by4 s.data.toList p<=4)/\u4 s.data.toList (p+1)<=60000/\p+9+u4 s.data.toList (p+1)<=s.size /\
  crc (s.extract p (p+5+u4 s.data.toList (p+1))).data.toList=u4 s.data.toList (p+5+u4 s.data.toList (p+1))
instance (s:ByteArray) (p:Nat):Decidable (GF s p):=by unfold GF;infer_instance
def fn (s:ByteArray) (p:Nat):Nat:=u4 s.data.toList (p+1)
def fbody (s:ByteArray) (p:Nat):ByteArray:=s.extract (p+5) (p+5+fn s p)
def fto (s:ByteArray) (p:Nat):Nat:=p+5+fn s p+4
def FrAns (s:ByteArray) (p:Nat) (e:Ending):Prop :=
 (GF s p/\e=.returned (.tuple #[fagg (by4 s.data.toList p) (fbody s p) p (fto s p),.int .i64 0]))∨(¬ GF s p/\ ∃x:Int,x≠0/\e=.returned (.tuple #[fagg 0 ⟨#[]⟩ 0 0,.int .i64 x]))
set_option maxHeartbeats 6400000 in
set_option maxRecDepth 100000 in
theorem get_any (g:Nat) (s:ByteArray) (p:Nat) (w:World) (ht:Au w g (n256 tb)) (hs:s.size<=1000000) (hp:p<=2000000) :
  Calls Tryz.prog 172 #[.pointer (some ⟨g,0,none⟩),.string s,.int .i64 (p:Int)] w fun e w'=>FrAns s p e/\Below w.heap.size w w':=by
 have mixed:Tryz.prog.follows .mixedOrders=true:=by kernel_rfl
 have HB0:=Lib.hid (ext_alloc w (.cells #[.int .i64 0,.string ⟨#[]⟩,.int .i64 0,.int .i64 0] 177));have q0: ¬ (p:Int)<0:=by omega
 by_cases h1:(s.size:Int)<(p:Int)
 ·have HN:=Lib.hid (show ¬ GF s p from fun h=>by have:=h.1;omega)
  go_enter Tryz.func172, Tryz.ntmps172
  go_wp2_with fail
  refine bodyPost_ret (v:=.tuple #[fagg 0 ⟨#[]⟩ 0 0,.int .i64 2]) (by simp[results,go_sem,fagg]) rfl ?_;exact⟨.inr ⟨HN.out,2,by omega,rfl⟩,HB0.out⟩
 have h2:IntKind.i64.wrap ((s.size:Int)-(p:Int))=(s.size:Int)-(p:Int):=by rw[IntKind.wrap_i64];omega
 by_cases h3:(s.size:Int)-(p:Int)<5
 ·have HN:=Lib.hid (show ¬ GF s p from fun h=>by have:=h.1;omega)
  go_enter Tryz.func172, Tryz.ntmps172
  go_wp2_with fail
  refine bodyPost_ret (v:=.tuple #[fagg 0 ⟨#[]⟩ 0 0,.int .i64 4]) (by simp[results,go_sem,fagg]) rfl ?_;exact⟨.inr ⟨HN.out,4,by omega,rfl⟩,HB0.out⟩
 have h4:IntKind.i64.wrap ((p:Int)+1)=((p+1:Nat):Int):=by rw[IntKind.wrap_i64];omega
 have HU1:=Lib.hid (unfix_any s (p+1) (w.alloc (.cells #[.int .i64 0,.string ⟨#[]⟩,.int .i64 0,.int .i64 0] 177)) (by omega) (by omega));have hps:p<s.size:=by omega
 have hps2:(p:Int)<(s.size:Int):=by omega
 have hk8:=by4_get s p hps;have h64:wrap64 (s[p].toNat:Int)=(s[p].toNat:Int):=by have:=s[p].toNat_lt;unfold wrap64;omega
 have hfn:=u4_lt s.data.toList (p+1);have HFN:=Lib.hid (show fn s p=u4 s.data.toList (p+1) from rfl);rw[<-HFN.out] at HU1 hfn;by_cases h5:1<=by4 s.data.toList p/\by4 s.data.toList p<=4
 ·have HK:=Lib.hid (known_yes (by4 s.data.toList p) (w.alloc (.cells #[.int .i64 0,.string ⟨#[]⟩,.int .i64 0,.int .i64 0] 177)) h5)
  rw[hk8] at HK;by_cases h6:(60000:Int)<(fn s p:Int)
  ·have HN:=Lib.hid (show ¬ GF s p from fun h=>by have:=h.2.2.1;rw[<-HFN.out] at this;omega)
   clear h5 hk8;generalize fn s p=N at *
   go_enter Tryz.func172, Tryz.ntmps172
   go_wp2_with fail
   refine HU1.out.mono ?_;rintro e1 w1 ⟨rfl,rfl⟩;go_wp2_with fail
   refine HK.out.mono ?_;rintro e1 w1 ⟨rfl,rfl⟩;go_wp2_with fail
   refine bodyPost_ret (v:=.tuple #[fagg 0 ⟨#[]⟩ 0 0,.int .i64 3]) (by simp[results,go_sem,fagg]) rfl ?_;exact⟨.inr ⟨HN.out,3,by omega,rfl⟩,HB0.out⟩
  have h7:IntKind.i64.wrap ((s.size:Int)-(p:Int)-5)=(s.size:Int)-(p:Int)-5:=by rw[IntKind.wrap_i64];omega
  have h8:IntKind.i64.wrap ((s.size:Int)-(p:Int)-5-4)=(s.size:Int)-(p:Int)-5-4:=by rw[IntKind.wrap_i64];omega
  by_cases h9:(s.size:Int)-(p:Int)-5-4<(fn s p:Int)
  ·have HN:=Lib.hid (show ¬ GF s p from fun h=>by have:=h.2.2.2.1;rw[<-HFN.out] at this;omega)
   clear h5 hk8;generalize fn s p=N at *
   go_enter Tryz.func172, Tryz.ntmps172
   go_wp2_with fail
   refine HU1.out.mono ?_;rintro e1 w1 ⟨rfl,rfl⟩;go_wp2_with fail
   refine HK.out.mono ?_;rintro e1 w1 ⟨rfl,rfl⟩;go_wp2_with fail
   refine bodyPost_ret (v:=.tuple #[fagg 0 ⟨#[]⟩ 0 0,.int .i64 4]) (by simp[results,go_sem,fagg]) rfl ?_;exact⟨.inr ⟨HN.out,4,by omega,rfl⟩,HB0.out⟩
  have h10:IntKind.i64.wrap ((p:Int)+1+4+(fn s p:Int))=((p+5+fn s p:Nat):Int):=by rw[IntKind.wrap_i64];omega
  have HU2:=Lib.hid (unfix_any s (p+5+fn s p) (w.alloc (.cells #[.int .i64 0,.string ⟨#[]⟩,.int .i64 0,.int .i64 0] 177)) (by omega) (by omega));have hq:=u4_lt s.data.toList (p+5+fn s p);have HQ:=Lib.hid (show GF s p↔crc (s.extract p (p+5+fn s p)).data.toList=u4 s.data.toList (p+5+fn s p) from
   ⟨fun h=>h.2.2.2.2,fun h=>⟨by omega,h5,by rw[<-HFN.out];omega,by rw[<-HFN.out];omega,h⟩⟩)
  have htw:=ht.below HB0.out ht.lt;have HLEN:=Lib.hid (show(vu (n256 tb)).length=256 by rw[length_vu,length_n256]);have HTR:=Lib.hid (fun(wx:World) (hb:Below (w.heap.size+1) (w.alloc (.cells #[.int .i64 0,.string ⟨#[]⟩,.int .i64 0,.int .i64 0] 177)) wx)=>(htw.below hb (by have:=ht.lt;omega)).range);have HCR:=Lib.hid (fun(wx:World)=>of_any (s.extract p (p+5+fn s p)) wx (by rw[ByteArray.size_extract];omega));have HTB:=Lib.hid (show TB=(vu (n256 tb)).toArray from rfl);rw[HTB.out] at HCR;have HF0:=Lib.hid (Fb.new w);have HSZ:=Lib.hid (show(w.alloc (.cells #[.int .i64 0,.string ⟨#[]⟩,.int .i64 0,.int .i64 0] 177)).heap.size=w.heap.size+1 by simp);have e1:0<=(p:Int):=by omega
  have e2:(p:Int)<=((p+5+fn s p:Nat):Int):=by omega
  have e3:((p+5+fn s p:Nat):Int)<=(s.size:Int):=by omega
  have e4:(p:Int)<=(p:Int)+5+(fn s p:Int):=by omega
  have e5:(p:Int)+5+(fn s p:Int)<=(s.size:Int):=by omega
  have e6:(p:Int)+1+4<=(p:Int)+5+(fn s p:Int):=by omega
  have e7:0<=(p:Int)+1+4:=by omega
  have HBD:=Lib.hid (show fbody s p=s.extract (p+5) (p+5+fn s p)/\fto s p=p+5+fn s p+4 from⟨rfl,rfl⟩);clear h5 htw;generalize vu (n256 tb)=Z at *
  generalize hcr:crc (s.extract p (p+5+fn s p)).data.toList=C at *
  have hC:C<4294967296:=hcr▸crc_lt _;clear hcr;generalize u4 s.data.toList (p+5+fn s p)=V at *
  generalize fn s p=N at *
  by_cases hCV:C=V
  ·subst hCV
   have hbb:((C:Int) != (C:Int))=false:=by simp
   have h64c:IntKind.i64.wrap (C:Int)=(C:Int):=by rw[IntKind.wrap_i64];omega
   go_enter Tryz.func172, Tryz.ntmps172
   go_wp2_with fail
   refine HU1.out.mono ?_;rintro e1 w1 ⟨rfl,rfl⟩;go_wp2_with fail
   refine HK.out.mono ?_;rintro e1 w1 ⟨rfl,rfl⟩;go_wp2_with fail
   refine HU2.out.mono ?_;rintro e1 w1 ⟨rfl,rfl⟩;have HS0:=Lib.hid (And.intro (HTR.out (w.alloc (.cells #[.int .i64 0,.string ⟨#[]⟩,.int .i64 0,.int .i64 0] 177)).drew ⟨rfl,rfl,rfl,Nat.le_refl _,fun _ _=>rfl⟩) (show Below (w.heap.size+1) (w.alloc (.cells #[.int .i64 0,.string ⟨#[]⟩,.int .i64 0,.int .i64 0] 177)) (w.alloc (.cells #[.int .i64 0,.string ⟨#[]⟩,.int .i64 0,.int .i64 0] 177)).drew from⟨rfl,rfl,rfl,Nat.le_refl _,fun _ _=>rfl⟩));go_wp2_with fail
   generalize w.alloc (.cells #[.int .i64 0,.string ⟨#[]⟩,.int .i64 0,.int .i64 0] 177)=w1 at *
   have HUD:=Lib.hid Tryz.underlying217;have hlz:(Tryz.prog.info? 217).map (·.size)=some Z.length:=by rw[HLEN.out];kernel_rfl
   have hud:=Tryz.underlying217;go_region_held3 (fun wx=>wx.rangeAt g 0 Z/\Below (w.heap.size+1) w1 wx) (first|exact HS0.out|assumption) (first
    |(go_at_call 160;refine(HCR.out _).mono ?_;rintro e2 w2 ⟨rfl,hb2⟩;have hB2:=HS0.out.2.trans (hb2.mono (by have:=HS0.out.2.size;have:=HSZ.out;simp at *;omega));have hS2:=And.intro (HTR.out _ hB2) hB2))
   have hR:=HF0.out.below hS2.2 (by omega);have HR:=Lib.hid hR;have HBE:=Lib.hid (HB0.out.trans (hS2.2.mono (by omega)));have r0:=hR.c0;have r1:=hR.c1;have r2:=hR.c2;have r3:=hR.c3;have f0:=hR.fz 0;have f1:=hR.fz 1;have f2:=hR.fz 2;have f3:=hR.fz 3;clear hR hS2 hB2 hb2 hlz hud;go_wp2_with fail
   go_region_held3 (fun _=>True) (trivial) (fail)
   go_wp2_with fail
   have t1:IntKind.i64.wrap (s[p].toNat:Int)=(s[p].toNat:Int):=by rw[IntKind.wrap_i64];have:=s[p].toNat_lt;omega
   have t2:((p:Int)+1+4).toNat=p+5:=by omega
   have t3:((p:Int)+5+(N:Int)).toNat=p+5+N:=by omega
   refine bodyPost_ret (v:=.tuple #[fagg s[p].toNat (s.extract (p+5) (p+5+N)) p (p+5+N+4),.int .i64 0]) (by simp[results,go_sem,r0,r1,r2,r3,fagg,t1,t2,t3]) rfl ?_;exact⟨.inl ⟨HQ.out.2 trivial,by rw[hk8,HBD.out.1,HBD.out.2]⟩,below_drewN (below_fill4 HBE.out (Nat.le_refl _)) 1⟩
  ·have hne: ¬ (C:Int)=(V:Int):=by omega
   have hbb:((C:Int) != (V:Int))=true:=by simp;omega
   have h64c:IntKind.i64.wrap (C:Int)=(C:Int):=by rw[IntKind.wrap_i64];omega
   go_enter Tryz.func172, Tryz.ntmps172
   go_wp2_with fail
   refine HU1.out.mono ?_;rintro e1 w1 ⟨rfl,rfl⟩;go_wp2_with fail
   refine HK.out.mono ?_;rintro e1 w1 ⟨rfl,rfl⟩;go_wp2_with fail
   refine HU2.out.mono ?_;rintro e1 w1 ⟨rfl,rfl⟩;have HS0:=Lib.hid (And.intro (HTR.out (w.alloc (.cells #[.int .i64 0,.string ⟨#[]⟩,.int .i64 0,.int .i64 0] 177)).drew ⟨rfl,rfl,rfl,Nat.le_refl _,fun _ _=>rfl⟩) (show Below (w.heap.size+1) (w.alloc (.cells #[.int .i64 0,.string ⟨#[]⟩,.int .i64 0,.int .i64 0] 177)) (w.alloc (.cells #[.int .i64 0,.string ⟨#[]⟩,.int .i64 0,.int .i64 0] 177)).drew from⟨rfl,rfl,rfl,Nat.le_refl _,fun _ _=>rfl⟩));go_wp2_with fail
   generalize w.alloc (.cells #[.int .i64 0,.string ⟨#[]⟩,.int .i64 0,.int .i64 0] 177)=w1 at *
   have HUD:=Lib.hid Tryz.underlying217;have hlz:(Tryz.prog.info? 217).map (·.size)=some Z.length:=by rw[HLEN.out];kernel_rfl
   have hud:=Tryz.underlying217;go_region_held3 (fun wx=>wx.rangeAt g 0 Z/\Below (w.heap.size+1) w1 wx) (first|exact HS0.out|assumption) (first
    |(go_at_call 160;refine(HCR.out _).mono ?_;rintro e2 w2 ⟨rfl,hb2⟩;have hB2:=HS0.out.2.trans (hb2.mono (by have:=HS0.out.2.size;have:=HSZ.out;simp at *;omega));have hS2:=And.intro (HTR.out _ hB2) hB2))
   have hR:=HF0.out.below hS2.2 (by omega);have HR:=Lib.hid hR;have HBE:=Lib.hid (HB0.out.trans (hS2.2.mono (by omega)));have r0:=hR.c0;have r1:=hR.c1;have r2:=hR.c2;have r3:=hR.c3;have f0:=hR.fz 0;have f1:=hR.fz 1;have f2:=hR.fz 2;have f3:=hR.fz 3;clear hR hS2 hB2 hb2 hlz hud;go_wp2_with fail
   refine bodyPost_ret (v:=.tuple #[fagg 0 ⟨#[]⟩ 0 0,.int .i64 7]) (by simp[results,go_sem,r0,r1,r2,r3,fagg]) rfl ?_;exact⟨.inr ⟨fun h=>hCV (HQ.out.1 h),7,by omega,rfl⟩,below_fill4 HBE.out (Nat.le_refl _)⟩
 ·have HN:=Lib.hid (show ¬ GF s p from fun h=>h5 h.2.1)
  have HK:=Lib.hid (known_no (by4 s.data.toList p) (w.alloc (.cells #[.int .i64 0,.string ⟨#[]⟩,.int .i64 0,.int .i64 0] 177)) h5);rw[hk8] at HK;clear h5 hk8;generalize fn s p=N at *
  go_enter Tryz.func172, Tryz.ntmps172
  go_wp2_with fail
  refine HU1.out.mono ?_;rintro e1 w1 ⟨rfl,rfl⟩;go_wp2_with fail
  refine HK.out.mono ?_;rintro e1 w1 ⟨rfl,rfl⟩;go_wp2_with fail
  refine bodyPost_ret (v:=.tuple #[fagg 0 ⟨#[]⟩ 0 0,.int .i64 160]) (by simp[results,go_sem,fagg]) rfl ?_;exact⟨.inr ⟨HN.out,160,by omega,rfl⟩,HB0.out⟩
end Fm
end Go.Proofs.YtphfmgapiimliaaGreat
namespace Go.Proofs.YtphfmgapiimliaaGreat
namespace Fm
open Go.RowKit Cr
def frA (k:UInt8) (b:ByteArray):ByteArray:=⟨#[k]⟩++⟨(le 4 b.size).toArray⟩++b
def frB (k:UInt8) (b:ByteArray):ByteArray:=frA k b++⟨(le 4 (crc (frA k b).data.toList)).toArray⟩
theorem size_frA (k:UInt8) (b:ByteArray):(frA k b).size=b.size+5:=by
 unfold frA;rw[ByteArray.size_append,ByteArray.size_append];show 1+(le 4 b.size).toArray.size+b.size=_
 rw[List.size_toArray,length_le];omega
set_option maxHeartbeats 3200000 in
set_option maxRecDepth 100000 in
theorem put_any (k:UInt8) (b:ByteArray) (w:World) (hk:1<=k.toNat/\k.toNat<=4) (hb:b.size<=60000) :
  Calls Tryz.prog 109 #[.int .i64 (k.toNat:Int),.string b] w fun e w'=>e=.returned (.tuple #[.string (frB k b),.int .i64 0])/\Below w.heap.size w w':=by
 have mixed:Tryz.prog.follows .mixedOrders=true:=by kernel_rfl
 have HK:=Lib.hid (known_yes k.toNat w hk);have HF:=Lib.hid (fix_any b.size w (by omega));have q1: ¬ (60000:Int)<(b.size:Int):=by omega
 have q2:(k.toNat:Int)%256=(k.toNat:Int):=by omega
 go_enter Tryz.func109, Tryz.ntmps109
 go_wp2_with fail
 refine HK.out.mono ?_;rintro e1 w1 ⟨rfl,rfl⟩;go_wp2_with fail
 refine HF.out.mono ?_;rintro e2 w2 ⟨rfl,hb2⟩;have hrd:Rd (w2.alloc (.cells #[.int .u8 (k.toNat:Int)] 5)) (w2.alloc (.cells #[.int .u8 (k.toNat:Int)] 5)).heap.size 1 (some ⟨w2.heap.size,0,none⟩) 1 (bv [k]):=Rd.of_own (World.ownsRow_lit (base:=w2.heap.size) (e:=5) (size:=1) w2 #[.int .u8 (k.toNat:Int)] 1 (Nat.le_refl _) (by simp[maxLen]) rfl);have hs:=run_str (l:=[k]) (c:=1) hrd;have HW2:=Lib.hid (hb2.trans ((ext_alloc w2 (.cells #[.int .u8 (k.toNat:Int)] 5)).mono hb2.size));have hl1: ¬ 9223372036854775807<1+(le 4 b.size).length:=by rw[length_le];omega
 have hl2: ¬ 9223372036854775807<1+(le 4 b.size).length+b.size:=by rw[length_le];omega
 have HA:=Lib.hid (show({ data:=#[k] }:ByteArray)++{ data:=(le 4 b.size).toArray }++b=frA k b from rfl);have HOF:=Lib.hid (fun(wx:World)=>of_any (frA k b) wx (by rw[size_frA];omega));have HFX:=Lib.hid (fun(wx:World)=>fix_any (crc (frA k b).data.toList) wx (crc_lt _));have HTA:=Lib.hid (table_any (w2.alloc (.cells #[.int .u8 (k.toNat:Int)] 5)));have hc:=crc_lt (frA k b).data.toList;have HB:=Lib.hid (show frB k b=frA k b++⟨(le 4 (crc (frA k b).data.toList)).toArray⟩ from rfl);have hsz:=size_frA k b;clear hb2 hrd;generalize crc (frA k b).data.toList=C at *
 have h64:IntKind.i64.wrap (C:Int)=(C:Int):=by rw[IntKind.wrap_i64];omega
 go_wp2_with fail
 rw[HA.out];generalize frA k b=F at *
 refine HTA.out.mono ?_;rintro e3 w3 ⟨rfl,hb3⟩;have HW3:=Lib.hid (HW2.out.trans (hb3.mono HW2.out.size));clear hb3 hs hl1 hl2;go_wp2_with fail
 refine(HOF.out w3).mono ?_;rintro e4 w4 ⟨rfl,hb4⟩;have HW4:=Lib.hid (HW3.out.trans (hb4.mono HW3.out.size));clear hb4;go_wp2_with fail
 refine(HFX.out w4).mono ?_;rintro e5 w5 ⟨rfl,hb5⟩;have HW5:=Lib.hid (HW4.out.trans (hb5.mono HW4.out.size));have hl3: ¬ 9223372036854775807<F.size+(le 4 C).length:=by rw[length_le];omega
 clear hb5;go_wp2_with fail
 go_ret2
 exact⟨by rw[HB.out];rfl,HW5.out⟩
set_option maxHeartbeats 3200000 in
set_option maxRecDepth 100000 in
theorem Get_any (s:ByteArray) (p:Nat) (w:World) (hs:s.size<=1000000) (hp:p<=2000000) :
  Calls Tryz.prog 128 #[.string s,.int .i64 (p:Int)] w fun e w'=>FrAns s p e/\Below w.heap.size w w':=by
 have mixed:Tryz.prog.follows .mixedOrders=true:=by kernel_rfl
 have hz:(Tryz.prog.info? 217).map (fun i=>(i.zero,i.size))=some (some (.agg (Array.replicate 256 (.int .u32 0))),256):=by kernel_rfl
 have hsz:(Tryz.prog.info? 217).map (·.size)=some 256:=by kernel_rfl
 have HZ:=Lib.hid hz;have HSI:=Lib.hid hsz;have HT:=Lib.hid (table_any (w.alloc (.cells #[.int .i64 0,.string ⟨#[]⟩,.int .i64 0,.int .i64 0] 177)));have HB0:=Lib.hid (ext_alloc w (.cells #[.int .i64 0,.string ⟨#[]⟩,.int .i64 0,.int .i64 0] 177));have HF0:=Lib.hid (Fb.new w);have HTL:=Lib.hid (show TB.size=256 by unfold TB;rw[List.size_toArray,length_vu,length_n256]);have HT1:=Lib.hid (show TB.all (·.oneCell')=true from all_oneCell_toArray (vu_one _));have HLT:=Lib.hid (show w.heap.size<(w.alloc (.cells #[.int .i64 0,.string ⟨#[]⟩,.int .i64 0,.int .i64 0] 177)).heap.size by simp);clear hz hsz
 go_enter Tryz.func128, Tryz.ntmps128
 go_wp2_with fail
 generalize w.alloc (.cells #[.int .i64 0,.string ⟨#[]⟩,.int .i64 0,.int .i64 0] 177)=w0 at *
 refine HT.out.mono ?_;rintro e1 w1 ⟨rfl,hb1⟩;have HG:=Lib.hid (get_any w1.heap.size s p (w1.alloc (.cells TB 217)) (tb_row w1) hs hp);have HB1:=Lib.hid (HB0.out.trans (hb1.mono HB0.out.size));have HB2:=Lib.hid (HB1.out.trans ((ext_alloc w1 (.cells TB 217)).mono HB1.out.size));have HF2:=Lib.hid ((HF0.out.below hb1 HLT.out).below (ext_alloc w1 (.cells TB 217)) (Nat.lt_of_lt_of_le HLT.out hb1.size));have HL2:=Lib.hid (show w.heap.size<(w1.alloc (.cells TB 217)).heap.size by have:=HLT.out;have:=hb1.size;simp;omega);clear hb1 HT;generalize TB=Z at *
 go_wp2_with (first|(refine wpList_alloc_zero rfl 217 rfl _ _ HZ.out ?_)|(refine wpList_store_new w1 (Array.replicate 256 (.int .u32 0)) rfl 217 (.tmp 6) (.tmp 7) rfl Z (by simp[go_sem,Act.eval]) (by simp[go_sem,Act.eval]) (by rw[HTL.out];exact HSI.out) (by rw[HTL.out];simp) HT1.out ?_))
 generalize w1.alloc (.cells Z 217)=w2 at *
 refine HG.out.mono ?_;rintro e3 w3 ⟨ha,hb3⟩;have HB3:=Lib.hid (HB2.out.trans (hb3.mono HB2.out.size));have HR3:=Lib.hid (HF2.out.below hb3 HL2.out);clear hb3 HG;rcases ha with ⟨hgf,rfl⟩|⟨hgf,x,hx,rfl⟩
 ·have HGF:=Lib.hid hgf
  have hR:=HR3.out;have r0:=hR.c0;have r1:=hR.c1;have r2:=hR.c2;have r3:=hR.c3;have f0:=hR.fz 0;have f1:=hR.fz 1;have f2:=hR.fz 2;have f3:=hR.fz 3;clear hR;unfold fagg;go_wp2_with fail
  refine bodyPost_ret (v:=.tuple #[fagg (by4 s.data.toList p) (fbody s p) p (fto s p),.int .i64 0]) (by simp[results,go_sem,r0,r1,r2,r3,fagg]) rfl ?_;exact⟨.inl ⟨HGF.out,rfl⟩,below_fill4 HB3.out (Nat.le_refl _)⟩
 ·have HGF:=Lib.hid (And.intro hgf hx)
  have hR:=HR3.out;have r0:=hR.c0;have r1:=hR.c1;have r2:=hR.c2;have r3:=hR.c3;have f0:=hR.fz 0;have f1:=hR.fz 1;have f2:=hR.fz 2;have f3:=hR.fz 3;clear hR;unfold fagg;go_wp2_with fail
  refine bodyPost_ret (v:=.tuple #[fagg 0 ⟨#[]⟩ 0 0,.int .i64 x]) (by simp[results,go_sem,r0,r1,r2,r3,fagg]) rfl ?_;exact⟨.inr ⟨HGF.out.1,x,HGF.out.2,rfl⟩,below_fill4 HB3.out (Nat.le_refl _)⟩
end Fm
end Go.Proofs.YtphfmgapiimliaaGreat
namespace Go.Proofs.YtphfmgapiimliaaGreat
namespace Sn
open Go.RowKit Hd Fm
def preB (s p:ByteArray):Bool:=decide (s.extract 0 p.size=p)
theorem preB_iff (s p:ByteArray):preB s p=true↔s.extract 0 p.size=p:=by unfold preB;rw[decide_eq_true_eq]
set_option maxHeartbeats 1600000 in
set_option maxRecDepth 100000 in
theorem beqL (a b:ByteArray) {r:Bool} (h:decide (a=b)=r):(a.toList==b.toList)=r:=by
 rw[ByteArray.toList_eq,ByteArray.toList_eq];subst h;by_cases hq:a=b
 ·subst hq;simp
 ·rw[decide_eq_false hq,beq_eq_false_iff_ne]
  intro e;obtain⟨⟨a⟩⟩:=a;obtain⟨⟨b⟩⟩:=b;exact hq (by simp only at e;rw[e])
theorem hp1 (s p:ByteArray) (w:World) {b:Bool} (h:preB s p=b):Calls Tryz.prog 233 #[.string s,.string p] w fun e w'=>e=.returned (.bool b)/\w=w':=by
 have mixed:Tryz.prog.follows .mixedOrders=true:=by kernel_rfl
 by_cases hs:p.size<=s.size
 ·have h1:decide (p.size<=s.size)=true:=decide_eq_true hs
  have hb:=Lib.hid (beqL (s.extract 0 p.size) p h);clear h
  go_enter Tryz.func233, Tryz.ntmps233
  go_wp2_with fail
  go_ret
  exact⟨ret_bool hb.out,rfl⟩
 ·have h1:decide (p.size<=s.size)=false:=decide_eq_false hs
  have hb:=Lib.hid (show false=b by
   subst h;rcases hq:preB s p with _|_
   ·rfl
   ·have:=congrArg ByteArray.size ((preB_iff s p).1 hq)
    rw[ByteArray.size_extract] at this;omega)
  clear h
  go_enter Tryz.func233, Tryz.ntmps233
  go_wp2_with fail
  go_ret
  exact⟨ret_bool hb.out,rfl⟩
theorem hp2 (s p:ByteArray) (w:World) {b:Bool} (h:preB s p=b):Calls Tryz.prog 185 #[.string s,.string p] w fun e w'=>e=.returned (.bool b)/\w=w':=by
 have mixed:Tryz.prog.follows .mixedOrders=true:=by kernel_rfl
 have H:=Lib.hid (fun w=>hp1 s p w h);clear h
 go_enter Tryz.func185, Tryz.ntmps185
 go_wp2_with fail
 refine(H.out _).mono ?_;rintro e1 w1 ⟨rfl,rfl⟩;go_wp2_with fail
 go_ret
 exact⟨rfl,rfl⟩
def hdrB (i g f:Nat):ByteArray:=frB 1 (hb i g f)
theorem hb_size (i g f:Nat) (h:1<=i/\i<=999999/\1<=g/\g<=999999/\1<=f/\f<=1000000000):(hb i g f).size<=27:=by
 have h3:=flat_len [i,g,f] (by intro x hx;simp at hx;omega);simp only[List.flatMap_cons,List.flatMap_nil,List.append_nil,List.length_cons,List.length_nil] at h3;unfold hb;show(List.toArray _).size<=27
 rw[List.size_toArray];omega
set_option maxHeartbeats 1600000 in
set_option maxRecDepth 100000 in
theorem begun_ok (s:ByteArray) (i g f:Nat) (w:World) (h:1<=i/\i<=999999/\1<=g/\g<=999999/\1<=f/\f<=1000000000) {b:Bool} (hp:preB s (hdrB i g f)=b) :
  Calls Tryz.prog 134 #[.string s,.agg #[.int .i64 (i:Int),.int .i64 (g:Int),.int .i64 (f:Int)]] w fun e w'=>e=.returned (.tuple #[.int .i64 (if b=true then((hdrB i g f).size:Int) else 0),.bool b])/\Below w.heap.size w w':=by
 have mixed:Tryz.prog.follows .mixedOrders=true:=by kernel_rfl
 have HH:=Lib.hid (hput_yes i g f (w.alloc (.cells #[.int .i64 (i:Int),.int .i64 (g:Int),.int .i64 (f:Int)] 35)) h);have HB:=Lib.hid (ext_alloc w (.cells #[.int .i64 (i:Int),.int .i64 (g:Int),.int .i64 (f:Int)] 35));have HP:=Lib.hid (fun w=>put_any 1 (hb i g f) w (by decide) (by have:=hb_size i g f h;omega));have hsz:=hb_size i g f h;have HX:=Lib.hid (fun w=>hp2 s (hdrB i g f) w hp);have HE:=Lib.hid (show frB 1 (hb i g f)=hdrB i g f from rfl);rw[HE.out] at HP;generalize hdrB i g f=D at *
 generalize hb i g f=E at *
 clear h hp;rcases b with _|_
 all_goals
  go_enter Tryz.func134, Tryz.ntmps134
  go_wp2_with fail
  refine HH.out.mono ?_;rintro e1 w1 ⟨rfl,hb1⟩;have HB1:=Lib.hid (HB.out.trans (hb1.mono HB.out.size));clear hb1;go_wp2_with fail
  refine(HP.out _).mono ?_;rintro e2 w2 ⟨rfl,hb2⟩;have HB2:=Lib.hid (HB1.out.trans (hb2.mono HB1.out.size));clear hb2;go_wp2_with fail
  refine(HX.out _).mono ?_;rintro e3 w3 ⟨rfl,rfl⟩;go_wp2_with fail
  go_ret2
  exact⟨rfl,HB2.out⟩
set_option maxHeartbeats 1600000 in
set_option maxRecDepth 100000 in
theorem begun_no (s:ByteArray) (i g f:Int) (w:World) (h:okH i g f=false) :
  Calls Tryz.prog 134 #[.string s,.agg #[.int .i64 i,.int .i64 g,.int .i64 f]] w fun e w'=>e=.returned (.tuple #[.int .i64 0,.bool false])/\Below w.heap.size w w':=by
 have mixed:Tryz.prog.follows .mixedOrders=true:=by kernel_rfl
 have HH:=Lib.hid (hput_no i g f (w.alloc (.cells #[.int .i64 i,.int .i64 g,.int .i64 f] 35)) h);have HB:=Lib.hid (ext_alloc w (.cells #[.int .i64 i,.int .i64 g,.int .i64 f] 35));clear h
 go_enter Tryz.func134, Tryz.ntmps134
 go_wp2_with fail
 refine HH.out.mono ?_;rintro e1 w1 ⟨rfl,hb1⟩;have HB1:=Lib.hid (HB.out.trans (hb1.mono HB.out.size));clear hb1;go_wp2_with fail
 go_ret2
 exact⟨rfl,HB1.out⟩
end Sn
end Go.Proofs.YtphfmgapiimliaaGreat
