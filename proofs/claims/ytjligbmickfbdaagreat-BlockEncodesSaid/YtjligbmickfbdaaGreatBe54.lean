/- block.peek$1: what stands ahead of a block's records is taken. block.peek$1 is walked. api.Meta as a value, and in a block. block.head.may; block.peek, Peek. block.Peek; block.head.raw. Slices of records that the call itself makes. -/
import Derived.Test.YtjligbmickfbdaaGreatBe53
import Derived.Test.YtjligbmickfbdaaGreatBe52
import Derived.Deep.RegionHeld3
import Derived.Test.YtjligbmickfbdaaGreatRows
import Derived.Test.YtjligbmickfbdaaGreatBe01
import Derived.Test.YtjligbmickfbdaaGreatBe02
import Derived.Test.YtjligbmickfbdaaGreatBe06
import Derived.Test.YtjligbmickfbdaaGreatBe46
import Derived.Test.YtjligbmickfbdaaGreatBe48
import Derived.Test.YtjligbmickfbdaaGreatBe15
namespace Go.Proofs.YtjligbmickfbdaaGreat
namespace Bk
open Go.RowKit Tk Vi Sq Rd
open Bt (Frm)
def Hb (w:World) (b:Nat) (raw count first early late md:Int) (bd:ByteArray):Prop :=
 w.heap[b]? =some (.cells #[.int .i64 0,.int .i64 0,.int .i64 raw,.int .i64 count,.int .i64 first,.int .i64 early,.int .i64 late,.int .i64 md,.string bd] 96 (0,0))
section
variable {w w':World} {b:Nat} {raw count first early late md:Int} {bd:ByteArray} (h:Hb w b raw count first early late md bd)
include h
theorem Hb.lt:b<w.heap.size:=(Array.getElem?_eq_some_iff.1 h).1
theorem Hb.c0:w.cell? ⟨b,0,none⟩=some (.int .i64 0):=by rw[cell_of_row w b 0 _ _ (0,0) h];rfl
theorem Hb.c1:w.cell? ⟨b,1,none⟩=some (.int .i64 0):=by rw[cell_of_row w b 1 _ _ (0,0) h];rfl
theorem Hb.c2:w.cell? ⟨b,2,none⟩=some (.int .i64 raw):=by rw[cell_of_row w b 2 _ _ (0,0) h];rfl
theorem Hb.c3:w.cell? ⟨b,3,none⟩=some (.int .i64 count):=by rw[cell_of_row w b 3 _ _ (0,0) h];rfl
theorem Hb.c4:w.cell? ⟨b,4,none⟩=some (.int .i64 first):=by rw[cell_of_row w b 4 _ _ (0,0) h];rfl
theorem Hb.c5:w.cell? ⟨b,5,none⟩=some (.int .i64 early):=by rw[cell_of_row w b 5 _ _ (0,0) h];rfl
theorem Hb.c6:w.cell? ⟨b,6,none⟩=some (.int .i64 late):=by rw[cell_of_row w b 6 _ _ (0,0) h];rfl
theorem Hb.c7:w.cell? ⟨b,7,none⟩=some (.int .i64 md):=by rw[cell_of_row w b 7 _ _ (0,0) h];rfl
theorem Hb.c8:w.cell? ⟨b,8,none⟩=some (.string bd):=by rw[cell_of_row w b 8 _ _ (0,0) h];rfl
theorem Hb.fz (j:Nat):w.frozen? ⟨b,j,none⟩=false:=frozen_of_row w b j _ _ h
theorem Hb.set2 (x:Int):Hb (w.setCell ⟨b,2,none⟩ (.int .i64 x)) b x count first early late md bd:=by
 unfold Hb at *;simp[World.setCell,Array.getElem?_modify,h]
theorem Hb.set3 (x:Int):Hb (w.setCell ⟨b,3,none⟩ (.int .i64 x)) b raw x first early late md bd:=by
 unfold Hb at *;simp[World.setCell,Array.getElem?_modify,h]
theorem Hb.set4 (x:Int):Hb (w.setCell ⟨b,4,none⟩ (.int .i64 x)) b raw count x early late md bd:=by
 unfold Hb at *;simp[World.setCell,Array.getElem?_modify,h]
theorem Hb.set5 (x:Int):Hb (w.setCell ⟨b,5,none⟩ (.int .i64 x)) b raw count first x late md bd:=by
 unfold Hb at *;simp[World.setCell,Array.getElem?_modify,h]
theorem Hb.set6 (x:Int):Hb (w.setCell ⟨b,6,none⟩ (.int .i64 x)) b raw count first early x md bd:=by
 unfold Hb at *;simp[World.setCell,Array.getElem?_modify,h]
theorem Hb.set7 (x:Int):Hb (w.setCell ⟨b,7,none⟩ (.int .i64 x)) b raw count first early late x bd:=by
 unfold Hb at *;simp[World.setCell,Array.getElem?_modify,h]
theorem Hb.set8 (x:ByteArray):Hb (w.setCell ⟨b,8,none⟩ (.string x)) b raw count first early late md x:=by
 unfold Hb at *;simp[World.setCell,Array.getElem?_modify,h]
theorem Hb.far {p:Addr} (hp:b≠p.block) (u:Value):Hb (w.setCell p u) b raw count first early late md bd:=(Below.heap_setCell w p u b hp).trans h
theorem Hb.keep {L:List Nat} (hk:Keep w w' L) (hb:b∉L):Hb w' b raw count first early late md bd:=(hk.blk b (Array.getElem?_eq_some_iff.1 h).1 hb).trans h
theorem Hb.below {B:Nat} (hk:Below B w w') (hb:b<B):Hb w' b raw count first early late md bd:=(hk.block b hb).trans h
end
theorem Hb.new (w:World):Hb (w.alloc (.cells #[.int .i64 0,.int .i64 0,.int .i64 0,.int .i64 0,.int .i64 0,.int .i64 0,.int .i64 0,.int .i64 0,.string ⟨#[]⟩] 96)) w.heap.size 0 0 0 0 0 0 ⟨#[]⟩:=heap_alloc_new w _
structure Vp (w:World) (bV bT bH bF:Nat) (s:ByteArray) (p:Nat) (raw count first early late md:Int) (bd:ByteArray):Prop where
 vV:Var w bV 66 (.pointer (some ⟨bT,0,none⟩))
 ta:Ta w bT s p
 vF:Var w bF 68 (.func (.func 36) #[.pointer (some ⟨bT,0,none⟩)] #[])
 hb:Hb w bH raw count first early late md bd
 ne:bV≠bT/\bV≠bH/\bV≠bF/\bT≠bH/\bT≠bF/\bH≠bF
section
variable {w w':World} {bV bT bH bF p:Nat} {s:ByteArray} {raw count first early late md:Int} {bd:ByteArray} (h:Vp w bV bT bH bF s p raw count first early late md bd)
include h
theorem Vp.drew:Vp w.drew bV bT bH bF s p raw count first early late md bd:=⟨h.vV,h.ta,h.vF,h.hb,h.ne⟩
theorem Vp.keep (hk:Keep w w' []):Vp w' bV bT bH bF s p raw count first early late md bd :=
 ⟨hk.var h.vV (by simp),hk.ta h.ta (by simp),hk.var h.vF (by simp),h.hb.keep hk (by simp),h.ne⟩
theorem Vp.set_p (q:Nat):Vp (w.setCell ⟨bT,1,none⟩ (.int .i64 (q:Int))) bV bT bH bF s q raw count first early late md bd:=by
 obtain⟨n1,n2,n3,n4,n5,n6⟩:=h.ne;exact⟨h.vV.far (p:=⟨bT,1,none⟩) n1 _,h.ta.set1 q,h.vF.far (p:=⟨bT,1,none⟩) (Ne.symm n5) _,h.hb.far (p:=⟨bT,1,none⟩) (Ne.symm n4) _,h.ne⟩
theorem Vp.put {raw' count' first' early' late' md':Int} {bd':ByteArray} (hk:Keep w w' [bH]) (hH:Hb w' bH raw' count' first' early' late' md' bd'):Vp w' bV bT bH bF s p raw' count' first' early' late' md' bd':=by
 obtain⟨n1,n2,n3,n4,n5,n6⟩:=h.ne;exact⟨hk.var h.vV (by simpa using n2),hk.ta h.ta (by simpa using n4),hk.var h.vF (by simpa using Ne.symm n6),hH,h.ne⟩
theorem Vp.went {q:Nat} (hk:Keep w w' [bT]) (hT:Ta w' bT s q):Vp w' bV bT bH bF s q raw count first early late md bd:=by
 obtain⟨n1,n2,n3,n4,n5,n6⟩:=h.ne;exact⟨hk.var h.vV (by simpa using n1),hT,hk.var h.vF (by simpa using Ne.symm n5),h.hb.keep hk (by simpa using Ne.symm n4),h.ne⟩
end
def perr:List UInt8->Int
 | []=>4
 |_::b=>(fin 5 [] b).1
def PkA (s:ByteArray) (bT bH:Nat) (w:World) (e:Ending) (w':World):Prop:=Keep w w' [bT,bH] /\
 ((∃(m:UInt8) (b':List UInt8) (n1 n2 n3 n4 n5:Nat) (r:ByteArray),s.data.toList=m::b'/\fin 5 [] b'=(0,[n1,n2,n3,n4,n5],r.data.toList)/\e=.returned (.tuple #[])/\Hb w' bH n1 n2 n3 n4 (lateOf n4 n5) m.toNat r) ∨
  (perr s.data.toList≠0/\ ∃q,e=.panicked [fault (perr s.data.toList) q]))
theorem num_any (w:World) (b p:Nat) (s:ByteArray) (h:Ta w b s p) (hs:s.size<=1000000) (hp:p<=s.size) :
  Calls Tryz.prog 36 #[.pointer (some ⟨b,0,none⟩)] w fun e w' =>
   (∃n k,gv 0 0 (s.data.toList.drop p)=(n,k,0)/\p+k<=s.size/\n<9223372036854775808/\e=.returned (.int .i64 (n:Int))/\w'=w.setCell ⟨b,1,none⟩ (.int .i64 ((p+k:Nat):Int))) ∨
   ((gv 0 0 (s.data.toList.drop p)).2.2≠0/\e=.panicked [fault (gv 0 0 (s.data.toList.drop p)).2.2 p]/\w=w'):=by
 by_cases hg:(gv 0 0 (s.data.toList.drop p)).2.2=0
 ·obtain⟨n,k,hgv⟩:∃n k,gv 0 0 (s.data.toList.drop p)=(n,k,0):=⟨_,_,by rw[<-hg]⟩
  obtain⟨hn,hk⟩:=gv_in s p n k hp hgv;refine(num_ok w b p n k s h hs hp hgv).mono ?_;rintro e w' ⟨he,hw⟩;exact .inl ⟨n,k,hgv,hk,hn,he,hw⟩
 ·refine(num_no w b p s h hs hp hg).mono ?_
  rintro e w' ⟨he,hw⟩;exact .inr ⟨hg,he,hw⟩
theorem fin_go {b:List UInt8} {k n u:Nat} {acc:List Nat} (h:gv 0 0 b=(n,u,0)):fin (k+1) acc b=fin k (acc++[n]) (b.drop u):=by
 rw[fin,if_neg (by simp[h]),h]
theorem fin_stop {b:List UInt8} {k:Nat} {acc:List Nat} (h:(gv 0 0 b).2.2≠0):(fin (k+1) acc b).1=(gv 0 0 b).2.2:=by
 rw[fin,if_pos h]
end Bk
end Go.Proofs.YtjligbmickfbdaaGreat
namespace Go.Proofs.YtjligbmickfbdaaGreat
namespace Bk
open Go.RowKit Tk Vi Sq Rd
open Bt (Frm)
def Pn (w0 w:World) (bV bT bH bF:Nat) (s:ByteArray) (b':List UInt8) (k:Nat) (acc:List Nat) (p:Nat) (raw count first early late md:Int) (bd:ByteArray):Prop :=
 Vp w bV bT bH bF s p raw count first early late md bd/\Keep w0 w [bT,bH]/\p<=s.size/\fin 5 [] b'=fin k acc (s.data.toList.drop p)
theorem Pn.num {w0 w:World} {bV bT bH bF p k:Nat} {s:ByteArray} {b':List UInt8} {acc:List Nat} {raw count first early late md:Int} {bd:ByteArray} (m:UInt8) (hb:s.data.toList=m::b')
  (h:Pn w0 w bV bT bH bF s b' (k+1) acc p raw count first early late md bd) (hs:s.size<=1000000) :
  Calls Tryz.prog 36 #[.pointer (some ⟨bT,0,none⟩)] w fun e w' =>
   (∃n q:Nat,n<9223372036854775808/\e=.returned (.int .i64 (n:Int))/\w'.cell? ⟨bF,0,none⟩=some (.func (.func 36) #[.pointer (some ⟨bT,0,none⟩)] #[])/\Hid (Pn w0 w' bV bT bH bF s b' k (acc++[(n:Nat)]) q raw count first early late md bd)) ∨
   (Keep w0 w' [bT,bH]/\perr s.data.toList≠0/\ ∃q,e=.panicked [fault (perr s.data.toList) q]):=by
 obtain⟨hv,hk,hp,hf⟩:=h;refine(num_any w bT p s hv.ta hs hp).mono ?_;rintro e w' (⟨n,u,hg,hu,hn,he,hw⟩|⟨hg,he,hw⟩)
 ·subst hw
  have h2:=hv.set_p (p+u);refine .inl ⟨n,p+u,hn,he,h2.vF.cell,h2,hk.set ⟨bT,1,none⟩ (.inl (by simp)) _,hu,?_⟩;rw[hf,fin_go hg,List.drop_drop]
 ·subst hw
  have hpe:perr s.data.toList=(gv 0 0 (s.data.toList.drop p)).2.2:=by
   have:perr s.data.toList=(fin 5 [] b').1:=by rw[hb];rfl
   rw[this,hf,fin_stop hg]
  exact .inr ⟨hk,by rw[hpe];exact hg,p,by rw[hpe];exact he⟩
set_option maxHeartbeats 6400000 in
set_option maxRecDepth 100000 in
theorem peek1_any (w:World) (bV bT bH bF:Nat) (s:ByteArray) (hV:Vp w bV bT bH bF s 0 0 0 0 0 0 0 ⟨#[]⟩) (hs:s.size<=1000000) :
  Calls Tryz.prog 103 #[.pointer (some ⟨bV,0,none⟩),.pointer (some ⟨bH,0,none⟩),.pointer (some ⟨bF,0,none⟩)] w fun e w'=>PkA s bT bH w e w':=by
 have mixed:Tryz.prog.follows .mixedOrders=true:=by kernel_rfl
 rcases hb:s.data.toList with _|⟨m,b'⟩
 ·have hd:s.size=0:=by
   have:s.data.toList.length=s.size:=rfl;rw[hb] at this;simpa using this.symm
  have HB:=Lib.hid (byte_no w bT s hV.ta hs hd);have hcV:=hV.vV.cell;have HE:=Lib.hid hb;clear hV hb hd
  go_enter Tryz.func103, Tryz.ntmps103
  go_wp2_with fail
  refine HB.out.mono ?_;rintro e1 w1 ⟨rfl,hk⟩;exact⟨rfl,hk.more (by simp),.inr (by rw[HE.out];exact⟨by decide,0,rfl⟩)⟩
 ·have hsz:1<=s.size:=by
   have:s.data.toList.length=s.size:=rfl;rw[hb,List.length_cons] at this;omega
  have HB:=Lib.hid (byte_ok w bT s hV.ta hs m b' hb);have hcV:=hV.vV.cell;have HE:=Lib.hid hb;have HV:=Lib.hid hV;obtain⟨nVT,nVH,nVF,nTH,nTF,nHF⟩:=hV.ne;clear hV hb
  go_enter Tryz.func103, Tryz.ntmps103
  go_wp2_with fail
  refine HB.out.mono ?_;rintro e1 w1 ⟨rfl,hta,hk⟩;have hv1:=HV.out.went hk hta;have hc7:=hv1.hb.c7;have hf7:=hv1.hb.fz 7;have hk2:Keep w1 (w1.setCell ⟨bH,7,none⟩ (.int .i64 (m.toNat:Int))) [bH]:=(Keep.refl w1 _).set ⟨bH,7,none⟩ (.inl (by simp)) _;have hv2:=hv1.put hk2 (hv1.hb.set7 (m.toNat:Int));have hp2:Pn w (w1.setCell ⟨bH,7,none⟩ (.int .i64 (m.toNat:Int))) bV bT bH bF s b' 5 [] 1 0 0 0 0 0 m.toNat ⟨#[]⟩ :=
   ⟨hv2,(hk.more (by simp)).trans (hk2.more (by simp)),hsz,by rw[HE.out];rfl⟩
  have HP2:=Lib.hid hp2;have hcF:=hv2.vF.cell;clear hta hk hv1 hk2 hv2 hp2 HB hcV;go_wp2_with fail
  clear hc7 hf7;generalize w1.setCell ⟨bH,7,none⟩ (.int .i64 (m.toNat:Int))=w2 at *
  have hSd:w2.drew.cell? ⟨bF,0,none⟩=some (.func (.func 36) #[.pointer (some ⟨bT,0,none⟩)] #[]):=hcF;have HSd:=Lib.hid hSd;have HP2d:=Lib.hid (show Pn w w2.drew bV bT bH bF s b' 5 [] 1 0 0 0 0 0 m.toNat ⟨#[]⟩ from⟨HP2.out.1.drew,HP2.out.2.1.drew,HP2.out.2.2⟩);clear hSd hcF HP2;refine wp_region_held (S:=fun wx=>wx.cell? ⟨bF,0,none⟩=some (.func (.func 36) #[.pointer (some ⟨bT,0,none⟩)] #[])) (by kernel_rfl) ?_
  change wpAnyH _ _ _ _ _ _ _ _ (World.drew _)
  refine wpAnyH_take (i:=0) (v:=(.func (.func 36) #[.pointer (some ⟨bT,0,none⟩)] #[])) rfl (by kernel_rfl) (by kernel_rfl) (by kernel_rfl) (fun _ _ _ h=>h) (Or.inl ⟨by rfl,fun w hS=>?_⟩) HSd.out ?_
  ·go_simp
  refine wpAnyH_take (i:=2) (v:=(.func (.func 36) #[.pointer (some ⟨bT,0,none⟩)] #[])) rfl (by kernel_rfl) (by kernel_rfl) (by kernel_rfl) (fun _ _ _ h=>h) (Or.inl ⟨by rfl,fun w hS=>?_⟩) HSd.out ?_
  ·go_simp
  refine wpAnyH_take (i:=4) (v:=(.func (.func 36) #[.pointer (some ⟨bT,0,none⟩)] #[])) rfl (by kernel_rfl) (by kernel_rfl) (by kernel_rfl) (fun _ _ _ h=>h) (Or.inl ⟨by rfl,fun w hS=>?_⟩) HSd.out ?_
  ·go_simp
  refine wpAnyH_take (i:=6) (v:=(.func (.func 36) #[.pointer (some ⟨bT,0,none⟩)] #[])) rfl (by kernel_rfl) (by kernel_rfl) (by kernel_rfl) (fun _ _ _ h=>h) (Or.inl ⟨by rfl,fun w hS=>?_⟩) HSd.out ?_
  ·go_simp
  refine wpAnyH_all (rs:=[1]) (by kernel_rfl) (by simp) ?_;intro i hi;obtain rfl:i=1:=by simpa using hi
  clear hi;unfold wpOp;go_simp
  refine Or.inl ((Pn.num m HE.out HP2d.out hs).mono ?_);rintro e3 v3 (⟨n1,q1,hn1,rfl,hS1,hA1⟩|⟨hkx,hnx,q,rfl⟩)
  rotate_left
  ·exact⟨rfl,hkx,.inr ⟨hnx,q,rfl⟩⟩
  refine⟨hS1,?_⟩;clear HP2d;refine wpAnyH_take (i:=8) (v:=.pointer (some ⟨bH,0,none⟩)) rfl (by kernel_rfl) (by kernel_rfl) (by kernel_rfl) (fun _ _ _ h=>h) (Or.inl ⟨by rfl,fun w hS=>?_⟩) hS1 ?_
  ·go_simp
  refine wpAnyH_take (i:=9) (v:=.pointer (some ⟨bH,2,none⟩)) rfl (by kernel_rfl) (by kernel_rfl) (by kernel_rfl) (fun _ _ _ h=>h) (Or.inl ⟨by rfl,fun w hS=>?_⟩) hS1 ?_
  ·go_simp
  refine wpAnyH_all (rs:=[3]) (by kernel_rfl) (by simp) ?_;intro i hi;obtain rfl:i=3:=by simpa using hi
  clear hi;unfold wpOp;go_simp
  refine Or.inl ((Pn.num m HE.out hA1.out hs).mono ?_);rintro e4 v4 (⟨n2,q2,hn2,rfl,hS2,hA2⟩|⟨hkx,hnx,q,rfl⟩)
  rotate_left
  ·exact⟨rfl,hkx,.inr ⟨hnx,q,rfl⟩⟩
  refine⟨hS2,?_⟩;clear hA1;refine wpAnyH_all (rs:=[5]) (by kernel_rfl) (by simp) ?_;intro i hi;obtain rfl:i=5:=by simpa using hi
  clear hi;unfold wpOp;go_simp
  refine Or.inl ((Pn.num m HE.out hA2.out hs).mono ?_);rintro e5 v5 (⟨n3,q3,hn3,rfl,hS3,hA3⟩|⟨hkx,hnx,q,rfl⟩)
  rotate_left
  ·exact⟨rfl,hkx,.inr ⟨hnx,q,rfl⟩⟩
  refine⟨hS3,?_⟩;clear hA2;refine wpAnyH_all (rs:=[7]) (by kernel_rfl) (by simp) ?_;intro i hi;obtain rfl:i=7:=by simpa using hi
  clear hi;unfold wpOp;go_simp
  refine Or.inl ((Pn.num m HE.out hA3.out hs).mono ?_);rintro e6 v6 (⟨n4,q4,hn4,rfl,hS4,hA4⟩|⟨hkx,hnx,q,rfl⟩)
  rotate_left
  ·exact⟨rfl,hkx,.inr ⟨hnx,q,rfl⟩⟩
  refine⟨hS4,?_⟩;clear hA3;have b0:=hA4.out.1.hb;have c0:=b0.c2;have f0:=b0.fz 2;refine wpAnyH_all (rs:=[10]) (by kernel_rfl) (by simp) ?_;intro i hi;obtain rfl:i=10:=by simpa using hi
  clear hi;unfold wpOp;go_simp
  have b1:=b0.set2 (n1:Int);have s1:(v6.setCell ⟨bH,2,none⟩ (.int .i64 (n1:Int))).cell? ⟨bF,0,none⟩=some (.func (.func 36) #[.pointer (some ⟨bT,0,none⟩)] #[]):=(World.cell?_setCell_other v6 ⟨bH,2,none⟩ ⟨bF,0,none⟩ _ (by intro e;injection e with e;exact nHF e)).trans hS4;refine Or.inl ?_;clear c0 f0;refine wpAnyH_take (i:=11) (v:=.pointer (some ⟨bH,0,none⟩)) rfl (by kernel_rfl) (by kernel_rfl) (by kernel_rfl) (fun _ _ _ h=>h) (Or.inl ⟨by rfl,fun w hS=>?_⟩) s1 ?_
  ·go_simp
  refine wpAnyH_take (i:=12) (v:=.pointer (some ⟨bH,3,none⟩)) rfl (by kernel_rfl) (by kernel_rfl) (by kernel_rfl) (fun _ _ _ h=>h) (Or.inl ⟨by rfl,fun w hS=>?_⟩) s1 ?_
  ·go_simp
  have c1:=b1.c3;have f1:=b1.fz 3;refine wpAnyH_all (rs:=[13]) (by kernel_rfl) (by simp) ?_;intro i hi;obtain rfl:i=13:=by simpa using hi
  clear hi;unfold wpOp;go_simp
  have b2:=b1.set3 (n2:Int);have s2:((v6.setCell ⟨bH,2,none⟩ (.int .i64 (n1:Int))).setCell ⟨bH,3,none⟩ (.int .i64 (n2:Int))).cell? ⟨bF,0,none⟩=some (.func (.func 36) #[.pointer (some ⟨bT,0,none⟩)] #[]):=(World.cell?_setCell_other (v6.setCell ⟨bH,2,none⟩ (.int .i64 (n1:Int))) ⟨bH,3,none⟩ ⟨bF,0,none⟩ _ (by intro e;injection e with e;exact nHF e)).trans s1;refine Or.inl ?_;clear c1 f1;refine wpAnyH_take (i:=14) (v:=.pointer (some ⟨bH,0,none⟩)) rfl (by kernel_rfl) (by kernel_rfl) (by kernel_rfl) (fun _ _ _ h=>h) (Or.inl ⟨by rfl,fun w hS=>?_⟩) s2 ?_
  ·go_simp
  refine wpAnyH_take (i:=15) (v:=.pointer (some ⟨bH,4,none⟩)) rfl (by kernel_rfl) (by kernel_rfl) (by kernel_rfl) (fun _ _ _ h=>h) (Or.inl ⟨by rfl,fun w hS=>?_⟩) s2 ?_
  ·go_simp
  have c2:=b2.c4;have f2:=b2.fz 4;refine wpAnyH_all (rs:=[16]) (by kernel_rfl) (by simp) ?_;intro i hi;obtain rfl:i=16:=by simpa using hi
  clear hi;unfold wpOp;go_simp
  have b3:=b2.set4 (n3:Int);have s3:(((v6.setCell ⟨bH,2,none⟩ (.int .i64 (n1:Int))).setCell ⟨bH,3,none⟩ (.int .i64 (n2:Int))).setCell ⟨bH,4,none⟩ (.int .i64 (n3:Int))).cell? ⟨bF,0,none⟩=some (.func (.func 36) #[.pointer (some ⟨bT,0,none⟩)] #[]):=(World.cell?_setCell_other ((v6.setCell ⟨bH,2,none⟩ (.int .i64 (n1:Int))).setCell ⟨bH,3,none⟩ (.int .i64 (n2:Int))) ⟨bH,4,none⟩ ⟨bF,0,none⟩ _ (by intro e;injection e with e;exact nHF e)).trans s2;refine Or.inl ?_;clear c2 f2;refine wpAnyH_take (i:=17) (v:=.pointer (some ⟨bH,0,none⟩)) rfl (by kernel_rfl) (by kernel_rfl) (by kernel_rfl) (fun _ _ _ h=>h) (Or.inl ⟨by rfl,fun w hS=>?_⟩) s3 ?_
  ·go_simp
  refine wpAnyH_take (i:=18) (v:=.pointer (some ⟨bH,5,none⟩)) rfl (by kernel_rfl) (by kernel_rfl) (by kernel_rfl) (fun _ _ _ h=>h) (Or.inl ⟨by rfl,fun w hS=>?_⟩) s3 ?_
  ·go_simp
  have c3:=b3.c5;have f3:=b3.fz 5;refine wpAnyH_all (rs:=[19]) (by kernel_rfl) (by simp) ?_;intro i hi;obtain rfl:i=19:=by simpa using hi
  clear hi;unfold wpOp;go_simp
  have b4:=b3.set5 (n4:Int);have s4:((((v6.setCell ⟨bH,2,none⟩ (.int .i64 (n1:Int))).setCell ⟨bH,3,none⟩ (.int .i64 (n2:Int))).setCell ⟨bH,4,none⟩ (.int .i64 (n3:Int))).setCell ⟨bH,5,none⟩ (.int .i64 (n4:Int))).cell? ⟨bF,0,none⟩=some (.func (.func 36) #[.pointer (some ⟨bT,0,none⟩)] #[]):=(World.cell?_setCell_other (((v6.setCell ⟨bH,2,none⟩ (.int .i64 (n1:Int))).setCell ⟨bH,3,none⟩ (.int .i64 (n2:Int))).setCell ⟨bH,4,none⟩ (.int .i64 (n3:Int))) ⟨bH,5,none⟩ ⟨bF,0,none⟩ _ (by intro e;injection e with e;exact nHF e)).trans s3;refine Or.inl ?_;clear c3 f3;refine wpAnyH_done (by kernel_rfl) ?_ _;have hk4:Keep v6 ((((v6.setCell ⟨bH,2,none⟩ (.int .i64 (n1:Int))).setCell ⟨bH,3,none⟩ (.int .i64 (n2:Int))).setCell ⟨bH,4,none⟩ (.int .i64 (n3:Int))).setCell ⟨bH,5,none⟩ (.int .i64 (n4:Int))) [bH]:=((((Keep.refl v6 _).set ⟨bH,2,none⟩ (.inl (by simp)) _).set ⟨bH,3,none⟩ (.inl (by simp)) _).set ⟨bH,4,none⟩ (.inl (by simp)) _).set ⟨bH,5,none⟩ (.inl (by simp)) _;have HP7:=Lib.hid (show Pn w ((((v6.setCell ⟨bH,2,none⟩ (.int .i64 (n1:Int))).setCell ⟨bH,3,none⟩ (.int .i64 (n2:Int))).setCell ⟨bH,4,none⟩ (.int .i64 (n3:Int))).setCell ⟨bH,5,none⟩ (.int .i64 (n4:Int))) bV bT bH bF s b' 1 ([]++[n1]++[n2]++[n3]++[n4]) q4 n1 n2 n3 n4 0 m.toNat ⟨#[]⟩ from⟨hA4.out.1.put hk4 b4,hA4.out.2.1.trans (hk4.more (by simp)),hA4.out.2.2⟩);clear b0 b1 b2 b3 b4 s1 s2 s3 hA4 hS1 hS2 hS3 hS4 hk4;have hcF:=HP7.out.1.vF.cell;generalize ((((v6.setCell ⟨bH,2,none⟩ (.int .i64 (n1:Int))).setCell ⟨bH,3,none⟩ (.int .i64 (n2:Int))).setCell ⟨bH,4,none⟩ (.int .i64 (n3:Int))).setCell ⟨bH,5,none⟩ (.int .i64 (n4:Int)))=w7 at *
  go_wp2_with fail
  refine(Pn.num m HE.out HP7.out hs).mono ?_;rintro e8 w8 (⟨n5,q5,hn5,rfl,hS8,hA8⟩|⟨hkx,hnx,q,rfl⟩)
  rotate_left
  ·exact⟨rfl,hkx,.inr ⟨hnx,q,rfl⟩⟩
  have hcV8:=hA8.out.1.vV.cell;have b8:=hA8.out.1.hb;have c5:=b8.c5;have c6:=b8.c6;have f6:=b8.fz 6;have B8:=Lib.hid b8;clear b8 hS8 hcF HP7;by_cases h1:n5<=1000000000
  ·by_cases h2:n4<=1000000000
   ·have i1:(n5:Int)<=1000000000:=by omega
    have i2:(n4:Int)<=1000000000:=by omega
    have hlo:((n4:Int)+(n5:Int))=((lateOf n4 n5:Nat):Int):=by unfold lateOf;rw[if_pos (by omega)];push_cast;rfl
    have HLO:=Lib.hid hlo;have hkA:Keep w8 ((w8.setCell ⟨bH,6,none⟩ (.int .i64 9223372036854775807)).setCell ⟨bH,6,none⟩ (.int .i64 ((n4:Int)+(n5:Int)))) [bH]:=((Keep.refl w8 _).set ⟨bH,6,none⟩ (.inl (by simp)) _).set ⟨bH,6,none⟩ (.inl (by simp)) _;have HA:=Lib.hid (And.intro (hA8.out.1.put hkA ((B8.out.set6 9223372036854775807).set6 ((n4:Int)+(n5:Int)))) (And.intro (hA8.out.2.1.trans (hkA.more (L':=[bT,bH]) (by simp))) ((B8.out.set6 9223372036854775807).set6 ((n4:Int)+(n5:Int)))));have HR:=Lib.hid (rest_any ((w8.setCell ⟨bH,6,none⟩ (.int .i64 9223372036854775807)).setCell ⟨bH,6,none⟩ (.int .i64 ((n4:Int)+(n5:Int)))) bT q5 s HA.out.1.ta hs hA8.out.2.2.1);have hff:fin 5 [] b'=(0,[n1,n2,n3,n4,n5],s.data.toList.drop q5):=hA8.out.2.2.2;have HFF:=Lib.hid hff;have hcVA:((w8.setCell ⟨bH,6,none⟩ (.int .i64 9223372036854775807)).setCell ⟨bH,6,none⟩ (.int .i64 ((n4:Int)+(n5:Int)))).cell? ⟨bV,0,none⟩=some (.pointer (some ⟨bT,0,none⟩)):=HA.out.1.vV.cell;clear hlo hkA hA8 hff;go_wp2_with fail
    refine HR.out.mono ?_;rintro e9 w9 ⟨rfl,hfr⟩;have hk9:Keep ((w8.setCell ⟨bH,6,none⟩ (.int .i64 9223372036854775807)).setCell ⟨bH,6,none⟩ (.int .i64 ((n4:Int)+(n5:Int)))) w9 [bT]:=Keep.of_frm hfr (by simp);have b9:=HA.out.2.2.keep hk9 (by simpa using Ne.symm nTH);have c8:=b9.c8;have f8:=b9.fz 8;have HK9:=Lib.hid (HA.out.2.1.trans (hk9.more (by simp)));obtain⟨r,hr⟩:∃r:ByteArray,r=⟨(s.data.toList.drop q5).toArray⟩:=⟨_,rfl⟩
    have hr2:r.data.toList=s.data.toList.drop q5:=by rw[hr]
    rw[<-hr];rw[<-hr2] at HFF;have HB9:=Lib.hid (b9.set8 r);rw[HLO.out] at HB9;clear hr hr2 hfr hk9 b9 HR HA HLO c5 c6 f6 hcVA;go_wp2_with fail
    go_end0
    exact⟨HK9.out.set ⟨bH,8,none⟩ (.inl (by simp)) _,.inl ⟨m,b',n1,n2,n3,n4,n5,r,HE.out,HFF.out,rfl,HB9.out⟩⟩
   ·have i1:(n5:Int)<=1000000000:=by omega
    have i2: ¬ (n4:Int)<=1000000000:=by omega
    have hlo:9223372036854775807=((lateOf n4 n5:Nat):Int):=by unfold lateOf;rw[if_neg (by omega)];rfl
    have HLO:=Lib.hid hlo;have hkA:Keep w8 (w8.setCell ⟨bH,6,none⟩ (.int .i64 9223372036854775807)) [bH]:=(Keep.refl w8 _).set ⟨bH,6,none⟩ (.inl (by simp)) _;have HA:=Lib.hid (And.intro (hA8.out.1.put hkA (B8.out.set6 9223372036854775807)) (And.intro (hA8.out.2.1.trans (hkA.more (L':=[bT,bH]) (by simp))) (B8.out.set6 9223372036854775807)));have HR:=Lib.hid (rest_any (w8.setCell ⟨bH,6,none⟩ (.int .i64 9223372036854775807)) bT q5 s HA.out.1.ta hs hA8.out.2.2.1);have hff:fin 5 [] b'=(0,[n1,n2,n3,n4,n5],s.data.toList.drop q5):=hA8.out.2.2.2;have HFF:=Lib.hid hff;have hcVA:(w8.setCell ⟨bH,6,none⟩ (.int .i64 9223372036854775807)).cell? ⟨bV,0,none⟩=some (.pointer (some ⟨bT,0,none⟩)):=HA.out.1.vV.cell;clear hlo hkA hA8 hff;go_wp2_with fail
    refine HR.out.mono ?_;rintro e9 w9 ⟨rfl,hfr⟩;have hk9:Keep (w8.setCell ⟨bH,6,none⟩ (.int .i64 9223372036854775807)) w9 [bT]:=Keep.of_frm hfr (by simp);have b9:=HA.out.2.2.keep hk9 (by simpa using Ne.symm nTH);have c8:=b9.c8;have f8:=b9.fz 8;have HK9:=Lib.hid (HA.out.2.1.trans (hk9.more (by simp)));obtain⟨r,hr⟩:∃r:ByteArray,r=⟨(s.data.toList.drop q5).toArray⟩:=⟨_,rfl⟩
    have hr2:r.data.toList=s.data.toList.drop q5:=by rw[hr]
    rw[<-hr];rw[<-hr2] at HFF;have HB9:=Lib.hid (b9.set8 r);rw[HLO.out] at HB9;clear hr hr2 hfr hk9 b9 HR HA HLO c5 c6 f6 hcVA;go_wp2_with fail
    go_end0
    exact⟨HK9.out.set ⟨bH,8,none⟩ (.inl (by simp)) _,.inl ⟨m,b',n1,n2,n3,n4,n5,r,HE.out,HFF.out,rfl,HB9.out⟩⟩
  ·have i1: ¬ (n5:Int)<=1000000000:=by omega
   have hlo:9223372036854775807=((lateOf n4 n5:Nat):Int):=by unfold lateOf;rw[if_neg (by omega)];rfl
   have HLO:=Lib.hid hlo;have hkA:Keep w8 (w8.setCell ⟨bH,6,none⟩ (.int .i64 9223372036854775807)) [bH]:=(Keep.refl w8 _).set ⟨bH,6,none⟩ (.inl (by simp)) _;have HA:=Lib.hid (And.intro (hA8.out.1.put hkA (B8.out.set6 9223372036854775807)) (And.intro (hA8.out.2.1.trans (hkA.more (L':=[bT,bH]) (by simp))) (B8.out.set6 9223372036854775807)));have HR:=Lib.hid (rest_any (w8.setCell ⟨bH,6,none⟩ (.int .i64 9223372036854775807)) bT q5 s HA.out.1.ta hs hA8.out.2.2.1);have hff:fin 5 [] b'=(0,[n1,n2,n3,n4,n5],s.data.toList.drop q5):=hA8.out.2.2.2;have HFF:=Lib.hid hff;have hcVA:(w8.setCell ⟨bH,6,none⟩ (.int .i64 9223372036854775807)).cell? ⟨bV,0,none⟩=some (.pointer (some ⟨bT,0,none⟩)):=HA.out.1.vV.cell;clear hlo hkA hA8 hff;go_wp2_with fail
   refine HR.out.mono ?_;rintro e9 w9 ⟨rfl,hfr⟩;have hk9:Keep (w8.setCell ⟨bH,6,none⟩ (.int .i64 9223372036854775807)) w9 [bT]:=Keep.of_frm hfr (by simp);have b9:=HA.out.2.2.keep hk9 (by simpa using Ne.symm nTH);have c8:=b9.c8;have f8:=b9.fz 8;have HK9:=Lib.hid (HA.out.2.1.trans (hk9.more (by simp)));obtain⟨r,hr⟩:∃r:ByteArray,r=⟨(s.data.toList.drop q5).toArray⟩:=⟨_,rfl⟩
   have hr2:r.data.toList=s.data.toList.drop q5:=by rw[hr]
   rw[<-hr];rw[<-hr2] at HFF;have HB9:=Lib.hid (b9.set8 r);rw[HLO.out] at HB9;clear hr hr2 hfr hk9 b9 HR HA HLO c5 c6 f6 hcVA;go_wp2_with fail
   go_end0
   exact⟨HK9.out.set ⟨bH,8,none⟩ (.inl (by simp)) _,.inl ⟨m,b',n1,n2,n3,n4,n5,r,HE.out,HFF.out,rfl,HB9.out⟩⟩
end Bk
end Go.Proofs.YtjligbmickfbdaaGreat
namespace Go.Proofs.YtjligbmickfbdaaGreat
namespace Bk
open Go.RowKit
def magg (at_ size raw count first early late:Int):Value:=.agg #[.int .i64 at_,.int .i64 size,.int .i64 raw,.int .i64 count,.int .i64 first,.int .i64 early,.int .i64 late]
def Mb (w:World) (b:Nat) (at_ size raw count first early late:Int):Prop :=
 w.heap[b]? =some (.cells #[.int .i64 at_,.int .i64 size,.int .i64 raw,.int .i64 count,.int .i64 first,.int .i64 early,.int .i64 late] 55 (0,0))
section
variable {w w':World} {b:Nat} {at_ size raw count first early late:Int} (h:Mb w b at_ size raw count first early late)
include h
theorem Mb.lt:b<w.heap.size:=(Array.getElem?_eq_some_iff.1 h).1
theorem Mb.c0:w.cell? ⟨b,0,none⟩=some (.int .i64 at_):=by rw[cell_of_row w b 0 _ _ (0,0) h];rfl
theorem Mb.c1:w.cell? ⟨b,1,none⟩=some (.int .i64 size):=by rw[cell_of_row w b 1 _ _ (0,0) h];rfl
theorem Mb.c2:w.cell? ⟨b,2,none⟩=some (.int .i64 raw):=by rw[cell_of_row w b 2 _ _ (0,0) h];rfl
theorem Mb.c3:w.cell? ⟨b,3,none⟩=some (.int .i64 count):=by rw[cell_of_row w b 3 _ _ (0,0) h];rfl
theorem Mb.c4:w.cell? ⟨b,4,none⟩=some (.int .i64 first):=by rw[cell_of_row w b 4 _ _ (0,0) h];rfl
theorem Mb.c5:w.cell? ⟨b,5,none⟩=some (.int .i64 early):=by rw[cell_of_row w b 5 _ _ (0,0) h];rfl
theorem Mb.c6:w.cell? ⟨b,6,none⟩=some (.int .i64 late):=by rw[cell_of_row w b 6 _ _ (0,0) h];rfl
theorem Mb.fz (j:Nat):w.frozen? ⟨b,j,none⟩=false:=frozen_of_row w b j _ _ h
theorem Mb.below {B:Nat} (hk:Below B w w') (hb:b<B):Mb w' b at_ size raw count first early late:=(hk.block b hb).trans h
theorem Mb.set0 (x:Int):Mb (w.setCell ⟨b,0,none⟩ (.int .i64 x)) b x size raw count first early late:=by
 unfold Mb at *;simp[World.setCell,Array.getElem?_modify,h]
theorem Mb.set1 (x:Int):Mb (w.setCell ⟨b,1,none⟩ (.int .i64 x)) b at_ x raw count first early late:=by
 unfold Mb at *;simp[World.setCell,Array.getElem?_modify,h]
theorem Mb.set2 (x:Int):Mb (w.setCell ⟨b,2,none⟩ (.int .i64 x)) b at_ size x count first early late:=by
 unfold Mb at *;simp[World.setCell,Array.getElem?_modify,h]
theorem Mb.set3 (x:Int):Mb (w.setCell ⟨b,3,none⟩ (.int .i64 x)) b at_ size raw x first early late:=by
 unfold Mb at *;simp[World.setCell,Array.getElem?_modify,h]
theorem Mb.set4 (x:Int):Mb (w.setCell ⟨b,4,none⟩ (.int .i64 x)) b at_ size raw count x early late:=by
 unfold Mb at *;simp[World.setCell,Array.getElem?_modify,h]
theorem Mb.set5 (x:Int):Mb (w.setCell ⟨b,5,none⟩ (.int .i64 x)) b at_ size raw count first x late:=by
 unfold Mb at *;simp[World.setCell,Array.getElem?_modify,h]
theorem Mb.set6 (x:Int):Mb (w.setCell ⟨b,6,none⟩ (.int .i64 x)) b at_ size raw count first early x:=by
 unfold Mb at *;simp[World.setCell,Array.getElem?_modify,h]
theorem Mb.fill (a s r c f e l:Int) :
  Mb (((((((w.setCell ⟨b,0,none⟩ (.int .i64 a)).setCell ⟨b,1,none⟩ (.int .i64 s)).setCell ⟨b,2,none⟩ (.int .i64 r)).setCell ⟨b,3,none⟩ (.int .i64 c)).setCell ⟨b,4,none⟩ (.int .i64 f)).setCell ⟨b,5,none⟩ (.int .i64 e)).setCell ⟨b,6,none⟩ (.int .i64 l)) b a s r c f e l :=
 ((((((h.set0 a).set1 s).set2 r).set3 c).set4 f).set5 e).set6 l
end
theorem Mb.new (w:World):Mb (w.alloc (.cells #[.int .i64 0,.int .i64 0,.int .i64 0,.int .i64 0,.int .i64 0,.int .i64 0,.int .i64 0] 55)) w.heap.size 0 0 0 0 0 0 0:=heap_alloc_new w _
theorem below_put {w w':World} {b B:Nat} (h:Below B w w') (hb:B<=b) (k:Nat) (v:Value):Below B w (w'.setCell ⟨b,k,none⟩ v):=h.setCell (p:=⟨b,k,none⟩) hb v
theorem below_fill7 {w w':World} {b B:Nat} {v0 v1 v2 v3 v4 v5 v6:Value} (h:Below B w w') (hb:B<=b):Below B w (((((((w'.setCell ⟨b,0,none⟩ v0).setCell ⟨b,1,none⟩ v1).setCell ⟨b,2,none⟩ v2).setCell ⟨b,3,none⟩ v3).setCell ⟨b,4,none⟩ v4).setCell ⟨b,5,none⟩ v5).setCell ⟨b,6,none⟩ v6) :=
 below_put (below_put (below_put (below_put (below_put (below_put (below_put h hb 0 v0) hb 1 v1) hb 2 v2) hb 3 v3) hb 4 v4) hb 5 v5) hb 6 v6
end Bk
end Go.Proofs.YtjligbmickfbdaaGreat
namespace Go.Proofs.YtjligbmickfbdaaGreat
namespace Bk
open Go.RowKit Tk Vi Sq Rd
open Bt (Frm)
def hagg (raw count first early late md:Int) (bd:ByteArray):Value:=.agg #[.int .i64 0,.int .i64 0,.int .i64 raw,.int .i64 count,.int .i64 first,.int .i64 early,.int .i64 late,.int .i64 md,.string bd]
theorem mayH_iff (md raw count first early late:Nat):mayH md raw count first early late=true↔md<=1/\raw<=20000/\1<=count/\count<=raw/\1<=first/\first+count<=1000000001/\early<=1000000000/\late<=1000000000:=by simp[mayH]
theorem mayH_no (md raw count first early late:Nat) (h: ¬ (md<=1/\raw<=20000/\1<=count/\count<=raw/\1<=first/\first+count<=1000000001/\early<=1000000000/\late<=1000000000)):mayH md raw count first early late=false:=by
 rw[<-Bool.not_eq_true,mayH_iff];exact h
theorem mayH_yes (md raw count first early late:Nat) (h:md<=1/\raw<=20000/\1<=count/\count<=raw/\1<=first/\first+count<=1000000001/\early<=1000000000/\late<=1000000000):mayH md raw count first early late=true:=(mayH_iff ..).2 h
set_option maxHeartbeats 3200000 in
theorem may0 (raw count first early late:Nat) (bd:ByteArray) (w:World) :
  Calls Tryz.prog 105 #[hagg raw count first early late 0 bd] w fun e w'=>e=.returned (.bool (mayH 0 raw count first early late))/\Below w.heap.size w w':=by
 unfold hagg;by_cases h0:20000<raw
 ·rw[mayH_no _ _ _ _ _ _ (by omega)]
  have a1:(20000:Int)<(raw:Int):=by omega
  go_enter Tryz.func105, Tryz.ntmps105
  go_wp2_with fail
  go_ret
  exact⟨rfl,ext_alloc w _⟩
 have a1: ¬ (20000:Int)<(raw:Int):=by omega
 by_cases h1:count<1
 ·rw[mayH_no _ _ _ _ _ _ (by omega)]
  have a2:(count:Int)<1:=by omega
  go_enter Tryz.func105, Tryz.ntmps105
  go_wp2_with fail
  go_ret
  exact⟨rfl,ext_alloc w _⟩
 have a2: ¬ (count:Int)<1:=by omega
 by_cases h2:raw<count
 ·rw[mayH_no _ _ _ _ _ _ (by omega)]
  have a3:(raw:Int)<(count:Int):=by omega
  go_enter Tryz.func105, Tryz.ntmps105
  go_wp2_with fail
  go_ret
  exact⟨rfl,ext_alloc w _⟩
 have a3: ¬ (raw:Int)<(count:Int):=by omega
 by_cases h3:1<=first
 rotate_left
 ·rw[mayH_no _ _ _ _ _ _ (by omega)]
  have a4: ¬ (1:Int)<=(first:Int):=by omega
  go_enter Tryz.func105, Tryz.ntmps105
  go_wp2_with fail
  go_ret
  exact⟨rfl,ext_alloc w _⟩
 have a4:(1:Int)<=(first:Int):=by omega
 by_cases h4:first+count<=1000000001
 rotate_left
 ·rw[mayH_no _ _ _ _ _ _ (by omega)]
  have a5: ¬ (first:Int)<=1000000001-(count:Int):=by omega
  go_enter Tryz.func105, Tryz.ntmps105
  go_wp2_with fail
  go_ret
  exact⟨rfl,ext_alloc w _⟩
 have a5:(first:Int)<=1000000001-(count:Int):=by omega
 by_cases h5:early<=1000000000
 rotate_left
 ·rw[mayH_no _ _ _ _ _ _ (by omega)]
  have a6: ¬ (early:Int)<=1000000000:=by omega
  go_enter Tryz.func105, Tryz.ntmps105
  go_wp2_with fail
  go_ret
  exact⟨rfl,ext_alloc w _⟩
 have a6:(early:Int)<=1000000000:=by omega
 by_cases h6:late<=1000000000
 rotate_left
 ·rw[mayH_no _ _ _ _ _ _ (by omega)]
  have a7: ¬ (late:Int)<=1000000000:=by omega
  go_enter Tryz.func105, Tryz.ntmps105
  go_wp2_with fail
  go_ret
  exact⟨rfl,ext_alloc w _⟩
 have a7:(late:Int)<=1000000000:=by omega
 rw[mayH_yes _ _ _ _ _ _ (by omega)]
 go_enter Tryz.func105, Tryz.ntmps105
 go_wp2_with fail
 go_ret
 exact⟨rfl,ext_alloc w _⟩
set_option maxHeartbeats 3200000 in
theorem may1 (raw count first early late:Nat) (bd:ByteArray) (w:World) :
  Calls Tryz.prog 105 #[hagg raw count first early late 1 bd] w fun e w'=>e=.returned (.bool (mayH 1 raw count first early late))/\Below w.heap.size w w':=by
 unfold hagg;by_cases h0:20000<raw
 ·rw[mayH_no _ _ _ _ _ _ (by omega)]
  have a1:(20000:Int)<(raw:Int):=by omega
  go_enter Tryz.func105, Tryz.ntmps105
  go_wp2_with fail
  go_ret
  exact⟨rfl,ext_alloc w _⟩
 have a1: ¬ (20000:Int)<(raw:Int):=by omega
 by_cases h1:count<1
 ·rw[mayH_no _ _ _ _ _ _ (by omega)]
  have a2:(count:Int)<1:=by omega
  go_enter Tryz.func105, Tryz.ntmps105
  go_wp2_with fail
  go_ret
  exact⟨rfl,ext_alloc w _⟩
 have a2: ¬ (count:Int)<1:=by omega
 by_cases h2:raw<count
 ·rw[mayH_no _ _ _ _ _ _ (by omega)]
  have a3:(raw:Int)<(count:Int):=by omega
  go_enter Tryz.func105, Tryz.ntmps105
  go_wp2_with fail
  go_ret
  exact⟨rfl,ext_alloc w _⟩
 have a3: ¬ (raw:Int)<(count:Int):=by omega
 by_cases h3:1<=first
 rotate_left
 ·rw[mayH_no _ _ _ _ _ _ (by omega)]
  have a4: ¬ (1:Int)<=(first:Int):=by omega
  go_enter Tryz.func105, Tryz.ntmps105
  go_wp2_with fail
  go_ret
  exact⟨rfl,ext_alloc w _⟩
 have a4:(1:Int)<=(first:Int):=by omega
 by_cases h4:first+count<=1000000001
 rotate_left
 ·rw[mayH_no _ _ _ _ _ _ (by omega)]
  have a5: ¬ (first:Int)<=1000000001-(count:Int):=by omega
  go_enter Tryz.func105, Tryz.ntmps105
  go_wp2_with fail
  go_ret
  exact⟨rfl,ext_alloc w _⟩
 have a5:(first:Int)<=1000000001-(count:Int):=by omega
 by_cases h5:early<=1000000000
 rotate_left
 ·rw[mayH_no _ _ _ _ _ _ (by omega)]
  have a6: ¬ (early:Int)<=1000000000:=by omega
  go_enter Tryz.func105, Tryz.ntmps105
  go_wp2_with fail
  go_ret
  exact⟨rfl,ext_alloc w _⟩
 have a6:(early:Int)<=1000000000:=by omega
 by_cases h6:late<=1000000000
 rotate_left
 ·rw[mayH_no _ _ _ _ _ _ (by omega)]
  have a7: ¬ (late:Int)<=1000000000:=by omega
  go_enter Tryz.func105, Tryz.ntmps105
  go_wp2_with fail
  go_ret
  exact⟨rfl,ext_alloc w _⟩
 have a7:(late:Int)<=1000000000:=by omega
 rw[mayH_yes _ _ _ _ _ _ (by omega)]
 go_enter Tryz.func105, Tryz.ntmps105
 go_wp2_with fail
 go_ret
 exact⟨rfl,ext_alloc w _⟩
set_option maxHeartbeats 3200000 in
theorem may_any (raw count first early late md:Nat) (bd:ByteArray) (w:World) :
  Calls Tryz.prog 105 #[hagg raw count first early late md bd] w fun e w'=>e=.returned (.bool (mayH md raw count first early late))/\Below w.heap.size w w':=by
 by_cases hm:md<=1
 ·obtain rfl|rfl:md=0∨md=1:=by omega
  ·exact may0 raw count first early late bd w
  ·exact may1 raw count first early late bd w
 ·rw[mayH_no _ _ _ _ _ _ (by omega)]
  have n0:((md:Int) != 0)=true:=by rw[bne_iff_ne];omega
  have n1:((md:Int) != 1)=true:=by rw[bne_iff_ne];omega
  have n2:((md:Int)==0)=false:=by rw[beq_eq_false_iff_ne];omega
  have n3:((md:Int)==1)=false:=by rw[beq_eq_false_iff_ne];omega
  unfold hagg
  go_enter Tryz.func105, Tryz.ntmps105
  go_wp2_with fail
  go_ret
  exact⟨rfl,ext_alloc w _⟩
theorem peekB_err {b:List UInt8} (h:perr b≠0):peekB b=none:=by
 rcases b with _|⟨m,b⟩
 ·rfl
 ·simp only[perr] at h
  unfold peekB;split
  ·rfl
  ·rename_i m2 b2 he
   injection he with e1 e2
   subst e1 e2;split
   ·rename_i hf;rw[hf] at h;exact absurd rfl h
   ·rfl
theorem peekB_at {b b':List UInt8} {m:UInt8} {n1 n2 n3 n4 n5:Nat} {r:List UInt8} (h:b=m::b') (hf:fin 5 [] b'=(0,[n1,n2,n3,n4,n5],r)) :
  peekB b=if mayH m.toNat n1 n2 n3 n4 (lateOf n4 n5)=true then some (m.toNat,n1,n2,n3,n4,lateOf n4 n5,r) else none:=by
 subst h;simp only[peekB,hf]
theorem perr_ok {b b':List UInt8} {m:UInt8} {ns r} (h:b=m::b') (hf:fin 5 [] b'=(0,ns,r)):perr b=0:=by
 subst h;simp only[perr,hf]
def PcA (s:ByteArray) (bH:Nat) (e:Ending) (w':World):Prop :=
 (∃(m:UInt8) (b':List UInt8) (n1 n2 n3 n4 n5:Nat) (r:ByteArray),s.data.toList=m::b'/\fin 5 [] b'=(0,[n1,n2,n3,n4,n5],r.data.toList)/\e=.returned (.tuple #[.int .i64 0,.int .i64 0])/\Hb w' bH n1 n2 n3 n4 (lateOf n4 n5) m.toNat r) ∨
 (perr s.data.toList≠0/\ ∃q:Int,e=.returned (.tuple #[.int .i64 (perr s.data.toList),.int .i64 q]))
theorem pk_caught (w:World) (bV bT bH bF:Nat) (s:ByteArray) (hV:Vp w bV bT bH bF s 0 0 0 0 0 0 0 ⟨#[]⟩) (hs:s.size<=1000000) :
  Calls Tryz.prog 38 #[.func (.func 103) #[] #[.pointer (some ⟨bV,0,none⟩),.pointer (some ⟨bH,0,none⟩),.pointer (some ⟨bF,0,none⟩)]] w fun e w'=>PcA s bH e w'/\Keep w w' [bT,bH]:=by
 have hl:∀k∈ [bT,bH],k<w.heap.size:=by
  intro k hk;simp at hk
  rcases hk with rfl|rfl
  ·exact hV.ta.lt
  ·exact hV.hb.lt
 have hn:∀k∈ [bT,bH],k∉ [w.heap.size,w.heap.size+1]:=by
  intro k hk hm;have:=hl k hk;simp at hm
  omega
 have hb:=wC_keep w;have hwc:=wC_vars w;have hc:=peek1_any (wC w) bV bT bH bF s (hV.keep (Keep.of_below hb)) hs;have hkk:∀w2 w',Keep (wC w) w2 [bT,bH]->Keep w2 w' [w.heap.size,w.heap.size+1]->Keep w w' [bT,bH]:=by
  intro w2 w' g5 hkp;have hkk:Keep w w2 [bT,bH]:=(Keep.of_below hb).trans (w':=wC w) g5;exact⟨hkp.os.trans hkk.os,hkp.tape.trans hkk.tape,hkp.output.trans hkk.output,Nat.le_trans hkk.size hkp.size,fun k hk hm=>(hkp.blk k (Nat.lt_of_lt_of_le hk hkk.size) (by simp;omega)).trans (hkk.blk k hk hm)⟩
 by_cases he:perr s.data.toList=0
 ·have h:=caughtB_ok w _ (fun w'=>Keep (wC w) w' [bT,bH]/\ ∃(m:UInt8) (b':List UInt8) (n1 n2 n3 n4 n5:Nat) (r:ByteArray),s.data.toList=m::b'/\fin 5 [] b'=(0,[n1,n2,n3,n4,n5],r.data.toList)/\Hb w' bH n1 n2 n3 n4 (lateOf n4 n5) m.toNat r)
   (fun w' hG=>⟨hG.1.var hwc.1 (fun hm=>by have:=hl _ hm;omega),hG.1.var hwc.2 (fun hm=>by have:=hl _ hm;omega)⟩) (hc.mono (by
    rintro e w' ⟨hk,⟨m,b',n1,n2,n3,n4,n5,r,h1,h2,h3,h4⟩|⟨hx,-⟩⟩
    ·exact⟨h3,hk,m,b',n1,n2,n3,n4,n5,r,h1,h2,h4⟩
    ·exact absurd he hx))
  refine h.mono ?_;rintro e w' ⟨rfl,w2,⟨g5,m,b',n1,n2,n3,n4,n5,r,h1,h2,h4⟩,hkp⟩;exact⟨.inl ⟨m,b',n1,n2,n3,n4,n5,r,h1,h2,rfl,h4.keep hkp (hn _ (by simp))⟩,hkk w2 w' g5 hkp⟩
 ·have h:=caughtB_no w _ (perr s.data.toList) (fun w'=>Keep (wC w) w' [bT,bH])
   (fun w' hG=>⟨hG.var hwc.1 (fun hm=>by have:=hl _ hm;omega),hG.var hwc.2 (fun hm=>by have:=hl _ hm;omega)⟩) (hc.mono (by
    rintro e w' ⟨hk,⟨m,b',n1,n2,n3,n4,n5,r,h1,h2,h3,h4⟩|⟨hx,q,hq⟩⟩
    ·exact absurd (perr_ok h1 h2) he
    ·exact⟨⟨q,hq⟩,hk⟩))
  refine h.mono ?_;rintro e w' ⟨⟨p,he'⟩,w2,g5,hkp⟩;exact⟨.inr ⟨he,p,he'⟩,hkk w2 w' g5 hkp⟩
def PeekAns (s:ByteArray) (e:Ending):Prop:=(∃(md raw count first early late:Nat) (r:ByteArray),peekB s.data.toList=some (md,raw,count,first,early,late,r.data.toList)/\e=.returned (.tuple #[hagg raw count first early late md r,.int .i64 0])) ∨
 (peekB s.data.toList=none/\ ∃x,e=.returned (.tuple #[hagg 0 0 0 0 0 0 ⟨#[]⟩,.int .i64 x])/\x≠0)
theorem Hb.fill {w:World} {b:Nat} (h:Hb w b 0 0 0 0 0 0 ⟨#[]⟩) (raw count first early late md:Int) (bd:ByteArray) :
  Hb (((((((((w.setCell ⟨b,0,none⟩ (.int .i64 0)).setCell ⟨b,1,none⟩ (.int .i64 0)).setCell ⟨b,2,none⟩ (.int .i64 raw)).setCell ⟨b,3,none⟩ (.int .i64 count)).setCell ⟨b,4,none⟩ (.int .i64 first)).setCell ⟨b,5,none⟩ (.int .i64 early)).setCell ⟨b,6,none⟩ (.int .i64 late)).setCell ⟨b,7,none⟩ (.int .i64 md)).setCell ⟨b,8,none⟩ (.string bd)) b raw count first early late md bd:=by
 have h0:Hb (w.setCell ⟨b,0,none⟩ (.int .i64 0)) b 0 0 0 0 0 0 ⟨#[]⟩:=by unfold Hb at *;simp[World.setCell,Array.getElem?_modify,h]
 have h1:Hb ((w.setCell ⟨b,0,none⟩ (.int .i64 0)).setCell ⟨b,1,none⟩ (.int .i64 0)) b 0 0 0 0 0 0 ⟨#[]⟩:=by
  generalize w.setCell ⟨b,0,none⟩ (.int .i64 0)=w at *
  unfold Hb at *;simp[World.setCell,Array.getElem?_modify,h0]
 exact((((((h1.set2 raw).set3 count).set4 first).set5 early).set6 late).set7 md).set8 bd
theorem below_fill9 {w w':World} {b B:Nat} {v0 v1 v2 v3 v4 v5 v6 v7 v8:Value} (h:Below B w w') (hb:B<=b):Below B w (((((((((w'.setCell ⟨b,0,none⟩ v0).setCell ⟨b,1,none⟩ v1).setCell ⟨b,2,none⟩ v2).setCell ⟨b,3,none⟩ v3).setCell ⟨b,4,none⟩ v4).setCell ⟨b,5,none⟩ v5).setCell ⟨b,6,none⟩ v6).setCell ⟨b,7,none⟩ v7).setCell ⟨b,8,none⟩ v8):=below_put (below_put (below_put (below_put (below_put (below_put (below_put (below_put (below_put (h) hb 0 v0) hb 1 v1) hb 2 v2) hb 3 v3) hb 4 v4) hb 5 v5) hb 6 v6) hb 7 v7) hb 8 v8
set_option maxHeartbeats 6400000 in
set_option maxRecDepth 100000 in
theorem peek_any (s:ByteArray) (w:World) (hs:s.size<=1000000) :
  Calls Tryz.prog 60 #[.string s] w fun e w'=>PeekAns s e/\Below w.heap.size w w':=by
 have mixed:Tryz.prog.follows .mixedOrders=true:=by kernel_rfl
 go_enter Tryz.func60, Tryz.ntmps60
 go_wp2_with fail
 refine(takeNew_any s _).mono ?_;rintro e1 w1 ⟨rfl,hta,hb1⟩;have e0:(w.alloc (.cells #[.int .i64 0,.int .i64 0,.int .i64 0,.int .i64 0,.int .i64 0,.int .i64 0,.int .i64 0,.int .i64 0,.string ⟨#[]⟩] 96)).heap.size=w.heap.size+1:=by simp
 rw[e0] at hta hb1;have hR1:Hb w1 w.heap.size 0 0 0 0 0 0 ⟨#[]⟩:=(Hb.new w).below hb1 (by omega);have hw1:Below w.heap.size w w1:=((Below.refl _ _).alloc (Nat.le_refl _) _).trans (hb1.mono (by omega));have hsz:w.heap.size+1<w1.heap.size:=hta.lt;have vV:=Var.new w1 66 (.pointer (some ⟨w.heap.size+1,0,none⟩));have vF:=Var.new (w1.alloc (.cells #[.pointer (some ⟨w.heap.size+1,0,none⟩)] 66)) 68 .nilFunc;rw[show(w1.alloc (.cells #[.pointer (some ⟨w.heap.size+1,0,none⟩)] 66)).heap.size=w1.heap.size+1 by simp] at vF;have d1:=store_one (P:=Tryz.prog) (v:=(.func (.func 36) #[.pointer (some ⟨w.heap.size+1,0,none⟩)] #[])) rfl vF.cell vF.frozen;have uV:=vV.alloc (.cells #[(.func (.func 36) #[.pointer (some ⟨w.heap.size+1,0,none⟩)] #[])] 68);have uF:=Var.new (w1.alloc (.cells #[.pointer (some ⟨w.heap.size+1,0,none⟩)] 66)) 68 (.func (.func 36) #[.pointer (some ⟨w.heap.size+1,0,none⟩)] #[]);rw[show(w1.alloc (.cells #[.pointer (some ⟨w.heap.size+1,0,none⟩)] 66)).heap.size=w1.heap.size+1 by simp] at uF;have hsB:((w1.alloc (.cells #[.pointer (some ⟨w.heap.size+1,0,none⟩)] 66)).alloc (.cells #[(.func (.func 36) #[.pointer (some ⟨w.heap.size+1,0,none⟩)] #[])] 68)).heap.size=w1.heap.size+1+1:=by simp
 have uH:=Hb.new ((w1.alloc (.cells #[.pointer (some ⟨w.heap.size+1,0,none⟩)] 66)).alloc (.cells #[(.func (.func 36) #[.pointer (some ⟨w.heap.size+1,0,none⟩)] #[])] 68));rw[hsB] at uH;have hbW:Below w1.heap.size w1 (((w1.alloc (.cells #[.pointer (some ⟨w.heap.size+1,0,none⟩)] 66)).alloc (.cells #[(.func (.func 36) #[.pointer (some ⟨w.heap.size+1,0,none⟩)] #[])] 68)).alloc (.cells #[.int .i64 0,.int .i64 0,.int .i64 0,.int .i64 0,.int .i64 0,.int .i64 0,.int .i64 0,.int .i64 0,.string ⟨#[]⟩] 96)):=(((Below.refl _ _).alloc (Nat.le_refl _) _).alloc (by simp) _).alloc (by rw[hsB];omega) _;have hVp:Vp (((w1.alloc (.cells #[.pointer (some ⟨w.heap.size+1,0,none⟩)] 66)).alloc (.cells #[(.func (.func 36) #[.pointer (some ⟨w.heap.size+1,0,none⟩)] #[])] 68)).alloc (.cells #[.int .i64 0,.int .i64 0,.int .i64 0,.int .i64 0,.int .i64 0,.int .i64 0,.int .i64 0,.int .i64 0,.string ⟨#[]⟩] 96)) w1.heap.size (w.heap.size+1) (w1.heap.size+1+1) (w1.heap.size+1) s 0 0 0 0 0 0 0 ⟨#[]⟩ :=
  ⟨uV.alloc _,(hbW.block _ hsz).trans hta,uF.alloc _,uH,by omega,by omega,by omega,by omega,by omega,by omega⟩
 have HC:=Lib.hid (pk_caught _ _ _ _ _ s hVp hs);have hRW:Hb (((w1.alloc (.cells #[.pointer (some ⟨w.heap.size+1,0,none⟩)] 66)).alloc (.cells #[(.func (.func 36) #[.pointer (some ⟨w.heap.size+1,0,none⟩)] #[])] 68)).alloc (.cells #[.int .i64 0,.int .i64 0,.int .i64 0,.int .i64 0,.int .i64 0,.int .i64 0,.int .i64 0,.int .i64 0,.string ⟨#[]⟩] 96)) w.heap.size 0 0 0 0 0 0 ⟨#[]⟩:=hR1.below hbW (by omega);have HW:=Lib.hid (And.intro (hw1.trans (hbW.mono (by omega))) hRW);have HS:=Lib.hid hsz;have HSB:=Lib.hid hsB;clear e0 hta hb1 hR1 hw1 hsz vV vF uV uF hsB uH hbW hVp hRW;go_wp2_with fail
 clear d1;refine HC.out.mono ?_;rintro e2 w2 ⟨hpc,hk⟩;have hkb:=HW.out.1.trans (hk.below HW.out.1.size (by intro k hk;have:=HS.out;simp at hk;omega));have hR2:=HW.out.2.keep hk (by have:=HS.out;simp;omega);have HK:=Lib.hid (And.intro hkb hR2);have f0:=hR2.fz 0;have f1:=hR2.fz 1;have f2:=hR2.fz 2;have f3:=hR2.fz 3;have f4:=hR2.fz 4;have f5:=hR2.fz 5;have f6:=hR2.fz 6;have f7:=hR2.fz 7;have f8:=hR2.fz 8;have r0:=hR2.c0;have r1:=hR2.c1;have r2:=hR2.c2;have r3:=hR2.c3;have r4:=hR2.c4;have r5:=hR2.c5;have r6:=hR2.c6;have r7:=hR2.c7;have r8:=hR2.c8;clear HC hk hkb hR2 HW HSB;rcases hpc with ⟨m,b',n1,n2,n3,n4,n5,r,h1,h2,rfl,h4⟩|⟨hx,q,rfl⟩
 ·have HM:=Lib.hid (may_any n1 n2 n3 n4 (lateOf n4 n5) m.toNat r w2)
  unfold hagg at HM;have HPB:=Lib.hid (peekB_at h1 h2);have k0:=h4.c0;have k1:=h4.c1;have k2:=h4.c2;have k3:=h4.c3;have k4:=h4.c4;have k5:=h4.c5;have k6:=h4.c6;have k7:=h4.c7;have k8:=h4.c8;have hH:=Lib.hid h4;clear h1 h2 h4;by_cases hm:mayH m.toNat n1 n2 n3 n4 (lateOf n4 n5)=true
  ·rw[if_pos hm] at HPB
   rw[hm] at HM;clear hm;generalize lateOf n4 n5=L at *
   clear f0 r0 f1 r1 f2 r2 f3 r3 f4 r4 f5 r5 f6 r6 f7 r7 f8 r8;go_wp2_with fail
   refine HM.out.mono ?_;rintro e3 w3 ⟨rfl,hb3⟩;have HK3:=Lib.hid (And.intro (HK.out.1.trans (hb3.mono HK.out.1.size)) (HK.out.2.below hb3 HK.out.2.lt));have f0:=HK3.out.2.fz 0;have f1:=HK3.out.2.fz 1;have f2:=HK3.out.2.fz 2;have f3:=HK3.out.2.fz 3;have f4:=HK3.out.2.fz 4;have f5:=HK3.out.2.fz 5;have f6:=HK3.out.2.fz 6;have f7:=HK3.out.2.fz 7;have f8:=HK3.out.2.fz 8;have r0:=HK3.out.2.c0;have r1:=HK3.out.2.c1;have r2:=HK3.out.2.c2;have r3:=HK3.out.2.c3;have r4:=HK3.out.2.c4;have r5:=HK3.out.2.c5;have r6:=HK3.out.2.c6;have r7:=HK3.out.2.c7;have r8:=HK3.out.2.c8;have hh:=hH.out.below hb3 hH.out.lt;clear hb3 HM k0 k1 k2 k3 k4 k5 k6 k7 k8;have k0:=hh.c0;have k1:=hh.c1;have k2:=hh.c2;have k3:=hh.c3;have k4:=hh.c4;have k5:=hh.c5;have k6:=hh.c6;have k7:=hh.c7;have k8:=hh.c8;clear hh;have HF:=Lib.hid (HK3.out.2.fill n1 n2 n3 n4 L m.toNat r);go_wp2_with fail
   have g0:=HF.out.c0;have g1:=HF.out.c1;have g2:=HF.out.c2;have g3:=HF.out.c3;have g4:=HF.out.c4;have g5:=HF.out.c5;have g6:=HF.out.c6;have g7:=HF.out.c7;have g8:=HF.out.c8;refine bodyPost_ret (v:=.tuple #[hagg n1 n2 n3 n4 L m.toNat r,.int .i64 0]) (by simp[results,go_sem,g0,g1,g2,g3,g4,g5,g6,g7,g8,hagg]) rfl ?_;exact⟨.inl ⟨m.toNat,n1,n2,n3,n4,L,r,HPB.out,rfl⟩,below_fill9 HK3.out.1 (Nat.le_refl _)⟩
  ·rw[if_neg hm] at HPB
   rw[Bool.not_eq_true] at hm;rw[hm] at HM;clear hm;generalize lateOf n4 n5=L at *
   clear f0 r0 f1 r1 f2 r2 f3 r3 f4 r4 f5 r5 f6 r6 f7 r7 f8 r8;go_wp2_with fail
   refine HM.out.mono ?_;rintro e3 w3 ⟨rfl,hb3⟩;have HK3:=Lib.hid (And.intro (HK.out.1.trans (hb3.mono HK.out.1.size)) (HK.out.2.below hb3 HK.out.2.lt));have f0:=HK3.out.2.fz 0;have f1:=HK3.out.2.fz 1;have f2:=HK3.out.2.fz 2;have f3:=HK3.out.2.fz 3;have f4:=HK3.out.2.fz 4;have f5:=HK3.out.2.fz 5;have f6:=HK3.out.2.fz 6;have f7:=HK3.out.2.fz 7;have f8:=HK3.out.2.fz 8;have r0:=HK3.out.2.c0;have r1:=HK3.out.2.c1;have r2:=HK3.out.2.c2;have r3:=HK3.out.2.c3;have r4:=HK3.out.2.c4;have r5:=HK3.out.2.c5;have r6:=HK3.out.2.c6;have r7:=HK3.out.2.c7;have r8:=HK3.out.2.c8;clear hb3 HM k0 k1 k2 k3 k4 k5 k6 k7 k8;have HF:=Lib.hid (HK3.out.2.fill 0 0 0 0 0 0 ⟨#[]⟩);go_wp2_with fail
   have g0:=HF.out.c0;have g1:=HF.out.c1;have g2:=HF.out.c2;have g3:=HF.out.c3;have g4:=HF.out.c4;have g5:=HF.out.c5;have g6:=HF.out.c6;have g7:=HF.out.c7;have g8:=HF.out.c8;refine bodyPost_ret (v:=.tuple #[hagg 0 0 0 0 0 0 ⟨#[]⟩,.int .i64 170]) (by simp[results,go_sem,g0,g1,g2,g3,g4,g5,g6,g7,g8,hagg]) rfl ?_;exact⟨.inr ⟨HPB.out,170,rfl,by decide⟩,below_fill9 HK3.out.1 (Nat.le_refl _)⟩
 ·have HP:=Lib.hid (And.intro (peekB_err hx) hx)
  generalize perr s.data.toList=x at *
  have hb1:(x != 0)=true:=by rw[bne_iff_ne];exact hx
  have hb2:(x==0)=false:=by rw[beq_eq_false_iff_ne];exact hx
  have HF:=Lib.hid (HK.out.2.fill 0 0 0 0 0 0 ⟨#[]⟩);go_wp2_with fail
  have g0:=HF.out.c0;have g1:=HF.out.c1;have g2:=HF.out.c2;have g3:=HF.out.c3;have g4:=HF.out.c4;have g5:=HF.out.c5;have g6:=HF.out.c6;have g7:=HF.out.c7;have g8:=HF.out.c8;refine bodyPost_ret (v:=.tuple #[hagg 0 0 0 0 0 0 ⟨#[]⟩,.int .i64 x]) (by simp[results,go_sem,g0,g1,g2,g3,g4,g5,g6,g7,g8,hagg]) rfl ?_;exact⟨.inr ⟨HP.out.1,x,rfl,hx⟩,below_fill9 HK.out.1 (Nat.le_refl _)⟩
end Bk
end Go.Proofs.YtjligbmickfbdaaGreat
namespace Go.Proofs.YtjligbmickfbdaaGreat
namespace Bk
open Go.RowKit Tk Vi Sq Rd
def MetaAns (s:ByteArray) (e:Ending):Prop:=(∃(md raw count first early late:Nat) (r:List UInt8),peekB s.data.toList=some (md,raw,count,first,early,late,r)/\e=.returned (.tuple #[magg 0 0 raw count first early late,.int .i64 0])) ∨
 (peekB s.data.toList=none/\ ∃x,e=.returned (.tuple #[magg 0 0 0 0 0 0 0,.int .i64 x])/\x≠0)
set_option maxHeartbeats 6400000 in
set_option maxRecDepth 100000 in
theorem Peek_any (s:ByteArray) (w:World) (hs:s.size<=1000000) :
  Calls Tryz.prog 27 #[.string s] w fun e w'=>MetaAns s e/\Below w.heap.size w w':=by
 have mixed:Tryz.prog.follows .mixedOrders=true:=by kernel_rfl
 have HP:=Lib.hid (fun w=>peek_any s w hs)
 go_enter Tryz.func27, Tryz.ntmps27
 go_wp2_with fail
 refine(HP.out _).mono ?_;rintro e1 w1 ⟨hp,hb1⟩;have hR:=(Mb.new w).below hb1 (by simp);have hB:=(ext_alloc w _).trans (hb1.mono (by simp));have hlt:w.heap.size<w1.heap.size:=by have:=hb1.size;simp at this;omega
 clear HP hb1;rcases hp with ⟨md,raw,count,first,early,late,r,hpk,rfl⟩|⟨hpk,x,rfl,hx⟩
 ·have HPK:=Lib.hid hpk
  have hR2:Mb (w1.alloc (.cells #[.int .i64 0,.int .i64 0,.int .i64 raw,.int .i64 count,.int .i64 first,.int .i64 early,.int .i64 late,.int .i64 md,.string r] 96)) w.heap.size 0 0 0 0 0 0 0:=hR.below (ext_alloc w1 _) hlt;have HB:=Lib.hid (hB.alloc (o:=(.cells #[.int .i64 0,.int .i64 0,.int .i64 raw,.int .i64 count,.int .i64 first,.int .i64 early,.int .i64 late,.int .i64 md,.string r] 96)) (by omega));have HF:=Lib.hid (hR2.fill 0 0 raw count first early late);have r0:=hR2.c0;have r1:=hR2.c1;have r2:=hR2.c2;have r3:=hR2.c3;have r4:=hR2.c4;have r5:=hR2.c5;have r6:=hR2.c6;have f0:=hR2.fz 0;have f1:=hR2.fz 1;have f2:=hR2.fz 2;have f3:=hR2.fz 3;have f4:=hR2.fz 4;have f5:=hR2.fz 5;have f6:=hR2.fz 6;clear hR hB hR2 hpk hlt;unfold hagg;go_wp2_with fail
  have g0:=HF.out.c0;have g1:=HF.out.c1;have g2:=HF.out.c2;have g3:=HF.out.c3;have g4:=HF.out.c4;have g5:=HF.out.c5;have g6:=HF.out.c6;refine bodyPost_ret (v:=.tuple #[magg 0 0 raw count first early late,.int .i64 0]) (by simp[results,go_sem,g0,g1,g2,g3,g4,g5,g6,magg]) rfl ?_;exact⟨.inl ⟨md,raw,count,first,early,late,r.data.toList,HPK.out,rfl⟩,below_fill7 HB.out (Nat.le_refl _)⟩
 ·have HPK:=Lib.hid hpk
  have hR2:Mb (w1.alloc (.cells #[.int .i64 0,.int .i64 0,.int .i64 0,.int .i64 0,.int .i64 0,.int .i64 0,.int .i64 0,.int .i64 0,.string ⟨#[]⟩] 96)) w.heap.size 0 0 0 0 0 0 0:=hR.below (ext_alloc w1 _) hlt;have HB:=Lib.hid (hB.alloc (o:=(.cells #[.int .i64 0,.int .i64 0,.int .i64 0,.int .i64 0,.int .i64 0,.int .i64 0,.int .i64 0,.int .i64 0,.string ⟨#[]⟩] 96)) (by omega));have HF:=Lib.hid (hR2.fill 0 0 0 0 0 0 0);have r0:=hR2.c0;have r1:=hR2.c1;have r2:=hR2.c2;have r3:=hR2.c3;have r4:=hR2.c4;have r5:=hR2.c5;have r6:=hR2.c6;have f0:=hR2.fz 0;have f1:=hR2.fz 1;have f2:=hR2.fz 2;have f3:=hR2.fz 3;have f4:=hR2.fz 4;have f5:=hR2.fz 5;have f6:=hR2.fz 6;clear hR hB hR2 hpk hlt;unfold hagg;go_wp2_with fail
  have g0:=HF.out.c0;have g1:=HF.out.c1;have g2:=HF.out.c2;have g3:=HF.out.c3;have g4:=HF.out.c4;have g5:=HF.out.c5;have g6:=HF.out.c6;refine bodyPost_ret (v:=.tuple #[magg 0 0 0 0 0 0 0,.int .i64 x]) (by simp[results,go_sem,g0,g1,g2,g3,g4,g5,g6,magg]) rfl ?_;exact⟨.inr ⟨HPK.out,x,rfl,hx⟩,below_fill7 HB.out (Nat.le_refl _)⟩
theorem rawB_plain {md raw:Nat} {b:List UInt8} (h:md≠1):rawB md raw b=if b.length≠raw then none else some b:=by
 unfold rawB;rw[if_neg h]
theorem rawB_packed {raw:Nat} {b:List UInt8}:rawB 1 raw b=match unS b with|none=>none|some s=>if s.length≠raw then none else some s:=by
 unfold rawB;first|(rw[if_pos rfl];done)|(rw[if_pos rfl];rcases unS b with _|s<;>rfl)
def RawAns (o:Option (List UInt8)) (e:Ending):Prop:=(∃t:ByteArray,o=some t.data.toList/\e=.returned (.tuple #[.string t,.int .i64 0]))∨(o=none/\ ∃x,e=.returned (.tuple #[.string ⟨#[]⟩,.int .i64 x])/\x≠0)
set_option maxHeartbeats 6400000 in
set_option maxRecDepth 100000 in
theorem raw_any (raw count first early late md:Nat) (bd:ByteArray) (w:World) (hs:bd.size<=1000000) :
  Calls Tryz.prog 61 #[hagg raw count first early late md bd] w fun e w'=>RawAns (rawB md raw bd.data.toList) e/\Below w.heap.size w w':=by
 have mixed:Tryz.prog.follows .mixedOrders=true:=by kernel_rfl
 have hl:bd.data.toList.length=bd.size:=rfl;by_cases hm:md=1
 ·subst hm
  have HU:=Lib.hid (unpack_any bd (w.alloc (.cells #[.int .i64 0,.int .i64 0,.int .i64 (raw:Int),.int .i64 (count:Int),.int .i64 (first:Int),.int .i64 (early:Int),.int .i64 (late:Int),.int .i64 1,.string bd] 96)) hs);obtain⟨R,hR⟩:∃R,R=rawB 1 raw bd.data.toList:=⟨_,rfl⟩
  rw[<-hR];rw[rawB_packed] at hR;have HR:=Lib.hid hR;have cc:(w.alloc (.cells #[.int .i64 0,.int .i64 0,.int .i64 (raw:Int),.int .i64 (count:Int),.int .i64 (first:Int),.int .i64 (early:Int),.int .i64 (late:Int),.int .i64 1,.string bd] 96)).cell? ⟨w.heap.size,2,none⟩=some (.int .i64 (raw:Int)):=by rw[World.cell?_alloc_new];rfl
  have HC:=Lib.hid cc;have HB0:=Lib.hid (ext_alloc w (.cells #[.int .i64 0,.int .i64 0,.int .i64 (raw:Int),.int .i64 (count:Int),.int .i64 (first:Int),.int .i64 (early:Int),.int .i64 (late:Int),.int .i64 1,.string bd] 96));clear hR hl cc;unfold hagg
  go_enter Tryz.func61, Tryz.ntmps61
  go_wp2_with fail
  refine HU.out.mono ?_;rintro e1 w1 ⟨hc,hb1⟩;have c2:=(hb1.cell (p:=⟨w.heap.size,2,none⟩) (by simp)).trans HC.out;have HB:=Lib.hid (HB0.out.trans (hb1.mono (by simp)));clear hb1 HU HC HB0;rcases hc with ⟨t,ht,rfl⟩|⟨ht,x,rfl,hx,-⟩
  ·have hR2:R=if t.length≠raw then none else some t:=by rw[HR.out,ht]
   obtain⟨sb,hsb⟩:∃sb:ByteArray,sb=⟨t.toArray⟩:=⟨_,rfl⟩
   have hsz:sb.size=t.length:=by rw[hsb];simp[ByteArray.size]
   have hst:sb.data.toList=t:=by rw[hsb]
   rw[<-hsb];rw[<-hsz,<-hst] at hR2;clear hsb hsz hst ht HR;by_cases hn:sb.size=raw
   ·rw[if_neg (by simpa using hn)] at hR2
    have HR2:=Lib.hid hR2;clear hR2;subst hn;go_wp2_with fail
    go_ret2
    exact⟨.inl ⟨sb,HR2.out,rfl⟩,HB.out⟩
   ·rw[if_pos hn] at hR2
    have HR2:=Lib.hid hR2;have hb1:((sb.size:Int) != (raw:Int))=true:=by rw[bne_iff_ne];omega
    have hb2:((sb.size:Int)==(raw:Int))=false:=by rw[beq_eq_false_iff_ne];omega
    have hb3:(sb.size==raw)=false:=by rw[beq_eq_false_iff_ne];omega
    have hb4:(sb.size != raw)=true:=by rw[bne_iff_ne];omega
    clear hR2;go_wp2_with fail
    go_ret2
    exact⟨.inr ⟨HR2.out,5,rfl,by decide⟩,HB.out⟩
  ·have hR2:R=none:=by rw[HR.out,ht]
   have HR2:=Lib.hid hR2;have hb1:(x != 0)=true:=by rw[bne_iff_ne];exact hx
   have hb2:(x==0)=false:=by rw[beq_eq_false_iff_ne];exact hx
   clear hR2 ht HR;go_wp2_with fail
   go_ret2
   exact⟨.inr ⟨HR2.out,x,rfl,hx⟩,HB.out⟩
 ·rw[rawB_plain hm]
  have hb1:((md:Int)==1)=false:=by rw[beq_eq_false_iff_ne];omega
  have hb2:((md:Int) != 1)=true:=by rw[bne_iff_ne];omega
  clear hm;by_cases hn:bd.size=raw
  ·rw[if_neg (by rw[hl];simpa using hn)]
   subst hn;clear hl;unfold hagg
   go_enter Tryz.func61, Tryz.ntmps61
   go_wp2_with fail
   go_ret2
   exact⟨.inl ⟨bd,rfl,rfl⟩,ext_alloc w _⟩
  ·rw[if_pos (by rw[hl];exact hn)]
   have hb3:((bd.size:Int) != (raw:Int))=true:=by rw[bne_iff_ne];omega
   have hb4:((bd.size:Int)==(raw:Int))=false:=by rw[beq_eq_false_iff_ne];omega
   have hb5:(bd.size==raw)=false:=by rw[beq_eq_false_iff_ne];omega
   have hb6:(bd.size != raw)=true:=by rw[bne_iff_ne];omega
   clear hl hn;unfold hagg
   go_enter Tryz.func61, Tryz.ntmps61
   go_wp2_with fail
   go_ret2
   exact⟨.inr ⟨rfl,5,rfl,by decide⟩,ext_alloc w _⟩
end Bk
end Go.Proofs.YtjligbmickfbdaaGreat
namespace Go.Proofs.YtjligbmickfbdaaGreat
namespace Rd
open Go.RowKit
def Own3 (w:World) (B:Nat) (v:Value) (l:List (Int×Int×ByteArray)):Prop:=w.ownsRow B 53 3 v l.length (fl3 l)
theorem rec_info:(Tryz.prog.info? 53).map (fun i=>(i.zero,i.size,i.bytes))=some (some (.agg #[.int .i64 0,.int .i64 0,.string ⟨#[]⟩]),3,32):=by kernel_rfl
theorem fl3_one (l:List (Int×Int×ByteArray)):∀u∈fl3 l,u.oneCell'=true:=by
 induction l with
 |nil=>simp[fl3]
 |cons x l ih =>
  intro u hu;rw[fl3_cons] at hu;simp only[List.mem_cons] at hu;rcases hu with rfl|rfl|rfl|hu
  ·rfl
  ·rfl
  ·rfl
  ·exact ih u hu
section
variable {ops:Array Oper} {rest:List Oper} {o:Oper} {a:Act} {Q:Exit->Act->World->Prop}
theorem append3 {s x:Operand} {B:Nat} {v:Value} {l:List (Int×Int×ByteArray)} {w0:World} {y z:Int} {d:ByteArray} (hown:Own3 w0 B v l) (hl:l.length<=1099511627776) (hB:B<=w0.heap.size)
  (h:∀A' n' c' w',Hid (n'=l.length+1)->Own3 w' B (.slice A' n' c') (l++[(y,z,d)])->Below B w0 w'->wpList Tryz.prog ops Q rest (a.put o.dst (.slice A' n' c')) w')
  (hgd:o.guard=none:=by exact rfl) (ho:o.op=.call { callee:=.builtin .append,args:=#[s,x],argTypes:=#[35,35] }:=by exact rfl)
  (hs:a.eval s=v:=by exact rfl) (hx:a.eval x=.slice (some ⟨w0.heap.size,0,none⟩) 1 1:=by exact rfl) :
  wpList Tryz.prog ops Q (o::rest) a (w0.alloc (.cells #[.int .i64 y,.int .i64 z,.string d] 53)):=by
 obtain⟨i0,hi,hz0,hz1,hz2⟩:=info_parts rec_info;refine wpList_append_own_at _ hgd s x 35 ho B 53 i0 (.agg #[.int .i64 0,.int .i64 0,.string ⟨#[]⟩]) 3 32 Tryz.underlying35 hi hz0 hz1 hz2 rfl (by omega) v l.length (fl3 l) hs (hown.alloc _)
  ⟨w0.heap.size,0,none⟩ 1 1 [.int .i64 y,.int .i64 z,.string d] hx rfl ?_ (by intro u hu;simp at hu;rcases hu with rfl|rfl|rfl<;>rfl) (by simp only[maxLen];omega) (by omega) (by simp;omega) ?_
 ·intro j u hu
  rw[Addr.add_lit,Nat.zero_add,World.cell?_alloc_new];simpa using hu
 intro v' w' hown' hg _ hat;have hg0:w0.grownBy w' v.ownBlock:=(World.grownBy_alloc w0 _ v.ownBlock).trans hg;have hlt:=World.ownsRow.lt hown;obtain⟨A',c',rfl,_,_⟩:=own_slice hown';refine h A' _ c' w' rfl ?_ ((Below.refl _ _).grown hg0 hB (fun k hk=>(hlt k hk).1));unfold Own3;rw[List.length_append,fl3_append];exact hown'
end
section
variable {w w':World} {B C:Nat} {v:Value} {l:List (Int×Int×ByteArray)}
theorem Own3.below (h:Own3 w B v l) (hb:Below C w w') (hC:w.heap.size<=C):Own3 w' B v l:=own_below h hb hC
theorem Own3.lower (h:Own3 w B v l) (hC:C<=B):Own3 w C v l:=own_lower h hC
theorem Own3.rd (h:Own3 w B v l):∃A c,v=.slice A l.length c/\l.length<=c/\c<=maxLen/\Rd w w.heap.size 3 A l.length (fl3 l):=by
 have h0:=h;obtain⟨A,c,rfl,h1,h2⟩:=own_slice h0;exact⟨A,c,rfl,h1,h2,Rd.of_own h⟩
theorem own3_nil (w:World) (B:Nat):Own3 w B (.slice none 0 0) []:=World.ownsRow_nil _ _ _ _
end
end Rd
end Go.Proofs.YtjligbmickfbdaaGreat
