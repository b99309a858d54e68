/- squash.Unpack$1. squash.Unpack$1, where no number is there. -/
import Derived.Test.YtjligbmickfbdaaGreatBe41
import Derived.Deep.RegionHeld3
import Derived.OrdersHeld
namespace Go.Proofs.YtjligbmickfbdaaGreat
namespace Sq
open Go.RowKit Tk Vi
open Bt (Frm)
structure Vs (w:World) (b bN bS bP bM bR bB:Nat) (s:ByteArray) (p:Nat) (x y z:Int) (t:ByteArray):Prop where
 ta:Ta w b s p
 vN:Var w bN 68 (.func (.func 36) #[.pointer (some ⟨b,0,none⟩)] #[])
 vR:Var w bR 69 (.func (.func 37) #[.pointer (some ⟨b,0,none⟩)] #[])
 vS:Var w bS 3 (.int .i64 x)
 vP:Var w bP 3 (.int .i64 y)
 vM:Var w bM 3 (.int .i64 z)
 vB:Var w bB 9 (.string t)
 ne:b≠bN/\b≠bS/\b≠bP/\b≠bM/\b≠bR/\b≠bB/\bN≠bS/\bN≠bP/\bN≠bM/\bN≠bR/\bN≠bB/\bS≠bP/\bS≠bM/\bS≠bR/\bS≠bB/\bP≠bM/\bP≠bR/\bP≠bB/\bM≠bR/\bM≠bB/\bR≠bB
section
variable {w w':World} {b bN bS bP bM bR bB p:Nat} {s t:ByteArray} {x y z:Int} (h:Vs w b bN bS bP bM bR bB s p x y z t)
include h
theorem Vs.drew:Vs w.drew b bN bS bP bM bR bB s p x y z t:=⟨h.ta,h.vN,h.vR,h.vS,h.vP,h.vM,h.vB,h.ne⟩
theorem Vs.drewN (m:Nat):Vs (w.drewN m) b bN bS bP bM bR bB s p x y z t:=⟨h.ta,h.vN,h.vR,h.vS,h.vP,h.vM,h.vB,h.ne⟩
theorem Vs.keep (hk:Keep w w' []):Vs w' b bN bS bP bM bR bB s p x y z t :=
 ⟨hk.ta h.ta (by simp),hk.var h.vN (by simp),hk.var h.vR (by simp),hk.var h.vS (by simp),hk.var h.vP (by simp),hk.var h.vM (by simp),hk.var h.vB (by simp),h.ne⟩
theorem Vs.set_p (q:Nat):Vs (w.setCell ⟨b,1,none⟩ (.int .i64 (q:Int))) b bN bS bP bM bR bB s q x y z t:=by
 obtain⟨n1,n2,n3,n4,n5,n6,_⟩:=h.ne;exact⟨h.ta.set1 q,h.vN.far (p:=⟨b,1,none⟩) (Ne.symm n1) _,h.vR.far (p:=⟨b,1,none⟩) (Ne.symm n5) _,h.vS.far (p:=⟨b,1,none⟩) (Ne.symm n2) _,h.vP.far (p:=⟨b,1,none⟩) (Ne.symm n3) _,h.vM.far (p:=⟨b,1,none⟩) (Ne.symm n4) _,h.vB.far (p:=⟨b,1,none⟩) (Ne.symm n6) _,h.ne⟩
theorem Vs.set_three (n1 n2 n3:Nat):Vs (((w.setCell ⟨bS,0,none⟩ (.int .i64 (n1:Int))).setCell ⟨bP,0,none⟩ (.int .i64 (n2:Int))).setCell ⟨bM,0,none⟩ (.int .i64 (n3:Int))) b bN bS bP bM bR bB s p n1 n2 n3 t:=by
 obtain⟨_,bs,bp,bm,_,_,ns,np,nm,_,_,sp,sm,sr,sb,pm,pr,pb,mr,mb,_⟩:=h.ne;refine⟨?_,?_,?_,?_,?_,?_,?_,h.ne⟩
 ·exact(Below.heap_setCell _ ⟨bM,0,none⟩ _ b bm).trans ((Below.heap_setCell _ ⟨bP,0,none⟩ _ b bp).trans ((Below.heap_setCell _ ⟨bS,0,none⟩ _ b bs).trans h.ta))
 ·exact((h.vN.far (p:=⟨bS,0,none⟩) ns _).far (p:=⟨bP,0,none⟩) np _).far (p:=⟨bM,0,none⟩) nm _
 ·exact((h.vR.far (p:=⟨bS,0,none⟩) (Ne.symm sr) _).far (p:=⟨bP,0,none⟩) (Ne.symm pr) _).far (p:=⟨bM,0,none⟩) (Ne.symm mr) _
 ·exact((h.vS.set_ _).far (p:=⟨bP,0,none⟩) sp _).far (p:=⟨bM,0,none⟩) sm _
 ·exact((h.vP.far (p:=⟨bS,0,none⟩) (Ne.symm sp) _).set_ _).far (p:=⟨bM,0,none⟩) pm _
 ·exact((h.vM.far (p:=⟨bS,0,none⟩) (Ne.symm sm) _).far (p:=⟨bP,0,none⟩) (Ne.symm pm) _).set_ _
 ·exact((h.vB.far (p:=⟨bS,0,none⟩) (Ne.symm sb) _).far (p:=⟨bP,0,none⟩) (Ne.symm pb) _).far (p:=⟨bM,0,none⟩) (Ne.symm mb) _
end
set_option maxHeartbeats 6400000 in
set_option maxRecDepth 100000 in
theorem un1_ok (w:World) (b bN bS bP bM bR bB n1 k1 n2 k2 n3 k3:Nat) (s:ByteArray) (hV:Vs w b bN bS bP bM bR bB s 0 0 0 0 ⟨#[]⟩) (hs:s.size<=1000000) (hk:k1+k2+k3<=s.size)
  (h1:gv 0 0 s.data.toList=(n1,k1,0)) (h2:gv 0 0 (s.data.toList.drop k1)=(n2,k2,0)) (h3:gv 0 0 (s.data.toList.drop (k1+k2))=(n3,k3,0)) :
  Calls Tryz.prog 39 #[.pointer (some ⟨bN,0,none⟩),.pointer (some ⟨bS,0,none⟩),.pointer (some ⟨bP,0,none⟩),.pointer (some ⟨bM,0,none⟩),.pointer (some ⟨bR,0,none⟩),.pointer (some ⟨bB,0,none⟩)] w fun e w' =>
   e=.returned (.tuple #[])/\Var w' bS 3 (.int .i64 (n1:Int))/\Var w' bP 3 (.int .i64 (n2:Int))/\Var w' bM 3 (.int .i64 (n3:Int))/\Var w' bB 9 (.string ⟨(s.data.toList.drop (k1+k2+k3)).toArray⟩)/\Keep w w' [b,bS,bP,bM,bB]:=by
 have mixed:Tryz.prog.follows .mixedOrders=true:=by kernel_rfl
 have hN1:Calls Tryz.prog 36 #[.pointer (some ⟨b,0,none⟩)] w.drew fun e w'=>e=.returned (.int .i64 (n1:Int))/\w'.cell? ⟨bN,0,none⟩=some (.func (.func 36) #[.pointer (some ⟨b,0,none⟩)] #[])/\Vs w' b bN bS bP bM bR bB s k1 0 0 0 ⟨#[]⟩/\Keep w w' [b,bS,bP,bM,bB]:=by
  refine(num_ok w.drew b 0 n1 k1 s hV.drew.ta hs (by omega) (by rw[List.drop_zero];exact h1)).mono ?_;rintro e w' ⟨rfl,rfl⟩;rw[Nat.zero_add];exact⟨rfl,(hV.drew.set_p k1).vN.cell,hV.drew.set_p k1,((Keep.refl w _).drew).set ⟨b,1,none⟩ (.inl (by simp)) _⟩
 have hN2:∀w1,(Vs w1 b bN bS bP bM bR bB s k1 0 0 0 ⟨#[]⟩/\Keep w w1 [b,bS,bP,bM,bB])->Calls Tryz.prog 36 #[.pointer (some ⟨b,0,none⟩)] w1 fun e w'=>e=.returned (.int .i64 (n2:Int))/\w'.cell? ⟨bN,0,none⟩=some (.func (.func 36) #[.pointer (some ⟨b,0,none⟩)] #[])/\Vs w' b bN bS bP bM bR bB s (k1+k2) 0 0 0 ⟨#[]⟩/\Keep w w' [b,bS,bP,bM,bB]:=by
  rintro w1 ⟨hv,hkp⟩;refine(num_ok w1 b k1 n2 k2 s hv.ta hs (by omega) h2).mono ?_;rintro e w' ⟨rfl,rfl⟩;exact⟨rfl,(hv.set_p (k1+k2)).vN.cell,hv.set_p (k1+k2),hkp.set ⟨b,1,none⟩ (.inl (by simp)) _⟩
 have hN3:∀w1,(Vs w1 b bN bS bP bM bR bB s (k1+k2) 0 0 0 ⟨#[]⟩/\Keep w w1 [b,bS,bP,bM,bB])->Calls Tryz.prog 36 #[.pointer (some ⟨b,0,none⟩)] w1 fun e w'=>e=.returned (.int .i64 (n3:Int))/\w'.cell? ⟨bN,0,none⟩=some (.func (.func 36) #[.pointer (some ⟨b,0,none⟩)] #[])/\Vs w' b bN bS bP bM bR bB s (k1+k2+k3) 0 0 0 ⟨#[]⟩/\Keep w w' [b,bS,bP,bM,bB]:=by
  rintro w1 ⟨hv,hkp⟩;refine(num_ok w1 b (k1+k2) n3 k3 s hv.ta hs (by omega) h3).mono ?_;rintro e w' ⟨rfl,rfl⟩;exact⟨rfl,(hv.set_p (k1+k2+k3)).vN.cell,hv.set_p (k1+k2+k3),hkp.set ⟨b,1,none⟩ (.inl (by simp)) _⟩
 have HN1:=Lib.hid hN1;have HN2:=Lib.hid hN2;have HN3:=Lib.hid hN3;have HV:=Lib.hid hV;have hSd:w.drew.cell? ⟨bN,0,none⟩=some (.func (.func 36) #[.pointer (some ⟨b,0,none⟩)] #[]):=hV.vN.cell;have HSd:=Lib.hid hSd;clear hN1 hN2 hN3 hV hSd h1 h2 h3;have tok1:True:=trivial;have nNS:bN≠bS:=HV.out.ne.2.2.2.2.2.2.1;have nNP:bN≠bP:=HV.out.ne.2.2.2.2.2.2.2.1;have nNM:bN≠bM:=HV.out.ne.2.2.2.2.2.2.2.2.1;have nSP:bS≠bP:=HV.out.ne.2.2.2.2.2.2.2.2.2.2.2.1;have nSM:bS≠bM:=HV.out.ne.2.2.2.2.2.2.2.2.2.2.2.2.1;have nPM:bP≠bM:=HV.out.ne.2.2.2.2.2.2.2.2.2.2.2.2.2.2.2.1
 go_enter Tryz.func39, Tryz.ntmps39
 go_wp2_with fail
 go_region_held3 (fun wx=>wx.cell? ⟨bN,0,none⟩=some (.func (.func 36) #[.pointer (some ⟨b,0,none⟩)] #[])) (first|exact HSd.out|assumption) (first|(have _t:=tok1;go_at_call 36;refine HN1.out.mono ?_;rintro e1 w1 ⟨rfl,hS1,hA1⟩;clear tok1)|(go_at_call 36;refine(HN2.out _ hA1).mono ?_;rintro e2 w2 ⟨rfl,hS2,hA2⟩;clear hA1)|(go_at_call 36;refine(HN3.out _ hA2).mono ?_;rintro e3 w3 ⟨rfl,hS3,hA3⟩;have c1:=hA3.1.vS.cell;have f1:=hA3.1.vS.frozen;have c2:=hA3.1.vP.cell;have f2:=hA3.1.vP.frozen;have c3:=hA3.1.vM.cell;have f3:=hA3.1.vM.frozen;have s1:=(hA3.1.vN.far (p:=⟨bS,0,none⟩) nNS (.int .i64 (n1:Int))).cell;have s2:=((hA3.1.vN.far (p:=⟨bS,0,none⟩) nNS (.int .i64 (n1:Int))).far (p:=⟨bP,0,none⟩) nNP (.int .i64 (n2:Int))).cell;have s3:=(((hA3.1.vN.far (p:=⟨bS,0,none⟩) nNS (.int .i64 (n1:Int))).far (p:=⟨bP,0,none⟩) nNP (.int .i64 (n2:Int))).far (p:=⟨bM,0,none⟩) nNM (.int .i64 (n3:Int))).cell;have HA3:=Lib.hid hA3;clear hA2 hA3))
 have hV4:=HA3.out.1.set_three n1 n2 n3;have hK4:=((HA3.out.2.set ⟨bS,0,none⟩ (.inl (by simp)) (.int .i64 (n1:Int))).set ⟨bP,0,none⟩ (.inl (by simp)) (.int .i64 (n2:Int))).set ⟨bM,0,none⟩ (.inl (by simp)) (.int .i64 (n3:Int));clear c1 c2 c3 f1 f2 f3 s1 s2 s3 hS1 hS2 hS3;generalize ((w3.setCell ⟨bS,0,none⟩ (.int .i64 (n1:Int))).setCell ⟨bP,0,none⟩ (.int .i64 (n2:Int))).setCell ⟨bM,0,none⟩ (.int .i64 (n3:Int))=w4 at *
 have hcR:=hV4.vR.cell;have HR:=Lib.hid (rest_any w4 b (k1+k2+k3) s hV4.ta hs hk);have HV4:=Lib.hid (And.intro hV4 hK4);clear hV4 hK4;go_wp2_with fail
 refine HR.out.mono ?_;rintro e5 w5 ⟨rfl,hf5⟩;have hk5:Keep w4 w5 [b]:=Keep.of_frm hf5 (by simp);have nb:=HV4.out.1.ne;have v1:=hk5.var HV4.out.1.vS (by simpa using Ne.symm nb.2.1);have v2:=hk5.var HV4.out.1.vP (by simpa using Ne.symm nb.2.2.1);have v3:=hk5.var HV4.out.1.vM (by simpa using Ne.symm nb.2.2.2.1);have v4:=hk5.var HV4.out.1.vB (by simpa using Ne.symm nb.2.2.2.2.2.1);have hcB:=v4.cell;have hfB:=v4.frozen;obtain⟨_,_,_,_,_,_,_,_,_,_,_,_,_,_,nSB,_,_,nPB,_,nMB,_⟩:=nb;have HX:=Lib.hid (show Var (w5.setCell ⟨bB,0,none⟩ (.string ⟨(s.data.toList.drop (k1+k2+k3)).toArray⟩)) bS 3 (.int .i64 (n1:Int))/\Var (w5.setCell ⟨bB,0,none⟩ (.string ⟨(s.data.toList.drop (k1+k2+k3)).toArray⟩)) bP 3 (.int .i64 (n2:Int))/\Var (w5.setCell ⟨bB,0,none⟩ (.string ⟨(s.data.toList.drop (k1+k2+k3)).toArray⟩)) bM 3 (.int .i64 (n3:Int))/\Var (w5.setCell ⟨bB,0,none⟩ (.string ⟨(s.data.toList.drop (k1+k2+k3)).toArray⟩)) bB 9 (.string ⟨(s.data.toList.drop (k1+k2+k3)).toArray⟩)/\Keep w (w5.setCell ⟨bB,0,none⟩ (.string ⟨(s.data.toList.drop (k1+k2+k3)).toArray⟩)) [b,bS,bP,bM,bB] from
  ⟨v1.far (p:=⟨bB,0,none⟩) nSB _,v2.far (p:=⟨bB,0,none⟩) nPB _,v3.far (p:=⟨bB,0,none⟩) nMB _,v4.set_ _,(HV4.out.2.trans (hk5.more (by simp))).set ⟨bB,0,none⟩ (.inl (by simp)) _⟩)
 generalize hrs:(⟨(s.data.toList.drop (k1+k2+k3)).toArray⟩:ByteArray)=rs at *
 have HRS:=Lib.hid hrs;clear hrs;clear hf5 hk5 v1 v2 v3 v4 HR hcR;go_wp2_with fail
 go_end0
 rw[HRS.out];exact⟨rfl,HX.out⟩
end Sq
end Go.Proofs.YtjligbmickfbdaaGreat
namespace Go.Proofs.YtjligbmickfbdaaGreat
namespace Sq
open Go.RowKit Tk Vi
open Bt (Frm)
set_option maxHeartbeats 6400000 in
set_option maxRecDepth 100000 in
theorem un1_no1 (w:World) (b bN bS bP bM bR bB:Nat) (s:ByteArray) (hV:Vs w b bN bS bP bM bR bB s 0 0 0 0 ⟨#[]⟩) (hs:s.size<=1000000) (h1:(gv 0 0 s.data.toList).2.2≠0) :
  Calls Tryz.prog 39 #[.pointer (some ⟨bN,0,none⟩),.pointer (some ⟨bS,0,none⟩),.pointer (some ⟨bP,0,none⟩),.pointer (some ⟨bM,0,none⟩),.pointer (some ⟨bR,0,none⟩),.pointer (some ⟨bB,0,none⟩)] w fun e w' =>
   (∃p,e=.panicked [fault (gv 0 0 s.data.toList).2.2 p])/\Keep w w' [b,bS,bP,bM,bB]:=by
 have mixed:Tryz.prog.follows .mixedOrders=true:=by kernel_rfl
 obtain⟨x,hx⟩:∃x,x=(gv 0 0 s.data.toList).2.2:=⟨_,rfl⟩
 rw[<-hx];have hN1:∀w1,(Vs w1 b bN bS bP bM bR bB s (0) 0 0 0 ⟨#[]⟩/\Keep w w1 [b,bS,bP,bM,bB])->Calls Tryz.prog 36 #[.pointer (some ⟨b,0,none⟩)] w1 fun e w'=>e=.panicked [fault x (0)]/\Keep w w' [b,bS,bP,bM,bB]:=by
  rintro w1 ⟨hv,hkp⟩;refine(num_no w1 b (0) s hv.ta hs (by omega) (by rw[List.drop_zero];exact h1)).mono ?_;rintro e w' ⟨rfl,rfl⟩;exact⟨by rw[hx,List.drop_zero],hkp⟩
 have HV:=Lib.hid hV;have h0:Vs w.drew b bN bS bP bM bR bB s 0 0 0 0 ⟨#[]⟩/\Keep w w.drew [b,bS,bP,bM,bB]:=⟨hV.drew,(Keep.refl w _).drew⟩
 have hSd:w.drew.cell? ⟨bN,0,none⟩=some (.func (.func 36) #[.pointer (some ⟨b,0,none⟩)] #[]):=hV.vN.cell;have hcN:=hV.vN.cell;have HN1:=Lib.hid hN1;clear hN1 hV h1 hx
 go_enter Tryz.func39, Tryz.ntmps39
 go_wp2_with fail
 refine wp_region_held (S:=fun wx=>wx.cell? ⟨bN,0,none⟩=some (.func (.func 36) #[.pointer (some ⟨b,0,none⟩)] #[])) (by kernel_rfl) ?_
 change wpAnyH _ _ _ _ _ _ _ _ (World.drew _)
 refine wpAnyH_take (i:=0) (v:=(.func (.func 36) #[.pointer (some ⟨b,0,none⟩)] #[])) rfl (by kernel_rfl) (by kernel_rfl) (by kernel_rfl) (fun _ _ _ h=>h) (Or.inl ⟨by rfl,fun w hS=>?_⟩) hSd ?_
 ·go_simp
 refine wpAnyH_take (i:=2) (v:=(.func (.func 36) #[.pointer (some ⟨b,0,none⟩)] #[])) rfl (by kernel_rfl) (by kernel_rfl) (by kernel_rfl) (fun _ _ _ h=>h) (Or.inl ⟨by rfl,fun w hS=>?_⟩) hSd ?_
 ·go_simp
 refine wpAnyH_take (i:=4) (v:=(.func (.func 36) #[.pointer (some ⟨b,0,none⟩)] #[])) rfl (by kernel_rfl) (by kernel_rfl) (by kernel_rfl) (fun _ _ _ h=>h) (Or.inl ⟨by rfl,fun w hS=>?_⟩) hSd ?_
 ·go_simp
 refine wpAnyH_all (rs:=[1]) (by kernel_rfl) (by simp) ?_;intro i hi;obtain rfl:i=1:=by simpa using hi
 clear hi;unfold wpOp;go_simp
 refine Or.inl ((HN1.out _ h0).mono ?_);rintro e1 w1 ⟨rfl,hKx⟩;exact⟨rfl,⟨_,rfl⟩,hKx⟩
set_option maxHeartbeats 6400000 in
set_option maxRecDepth 100000 in
theorem un1_no2 (w:World) (b bN bS bP bM bR bB n1 k1:Nat) (s:ByteArray) (hV:Vs w b bN bS bP bM bR bB s 0 0 0 0 ⟨#[]⟩) (hs:s.size<=1000000) (hk:k1<=s.size) (h1:gv 0 0 s.data.toList=(n1,k1,0)) (h2:(gv 0 0 (s.data.toList.drop k1)).2.2≠0) :
  Calls Tryz.prog 39 #[.pointer (some ⟨bN,0,none⟩),.pointer (some ⟨bS,0,none⟩),.pointer (some ⟨bP,0,none⟩),.pointer (some ⟨bM,0,none⟩),.pointer (some ⟨bR,0,none⟩),.pointer (some ⟨bB,0,none⟩)] w fun e w' =>
   (∃p,e=.panicked [fault (gv 0 0 (s.data.toList.drop k1)).2.2 p])/\Keep w w' [b,bS,bP,bM,bB]:=by
 have mixed:Tryz.prog.follows .mixedOrders=true:=by kernel_rfl
 obtain⟨x,hx⟩:∃x,x=(gv 0 0 (s.data.toList.drop k1)).2.2:=⟨_,rfl⟩
 rw[<-hx];have hN1:∀w1,(Vs w1 b bN bS bP bM bR bB s (0) 0 0 0 ⟨#[]⟩/\Keep w w1 [b,bS,bP,bM,bB])->Calls Tryz.prog 36 #[.pointer (some ⟨b,0,none⟩)] w1 fun e w'=>e=.returned (.int .i64 (n1:Int))/\w'.cell? ⟨bN,0,none⟩=some (.func (.func 36) #[.pointer (some ⟨b,0,none⟩)] #[])/\Vs w' b bN bS bP bM bR bB s (0+k1) 0 0 0 ⟨#[]⟩/\Keep w w' [b,bS,bP,bM,bB]:=by
  rintro w1 ⟨hv,hkp⟩;refine(num_ok w1 b (0) n1 k1 s hv.ta hs (by omega) (by rw[List.drop_zero];exact h1)).mono ?_;rintro e w' ⟨rfl,rfl⟩;exact⟨rfl,(hv.set_p (0+k1)).vN.cell,hv.set_p (0+k1),hkp.set ⟨b,1,none⟩ (.inl (by simp)) _⟩
 have hN2:∀w1,(Vs w1 b bN bS bP bM bR bB s (0+k1) 0 0 0 ⟨#[]⟩/\Keep w w1 [b,bS,bP,bM,bB])->Calls Tryz.prog 36 #[.pointer (some ⟨b,0,none⟩)] w1 fun e w'=>e=.panicked [fault x (0+k1)]/\Keep w w' [b,bS,bP,bM,bB]:=by
  rintro w1 ⟨hv,hkp⟩;refine(num_no w1 b (0+k1) s hv.ta hs (by omega) (by rw[Nat.zero_add];exact h2)).mono ?_;rintro e w' ⟨rfl,rfl⟩;exact⟨by rw[hx,Nat.zero_add],hkp⟩
 have HV:=Lib.hid hV;have h0:Vs w.drew b bN bS bP bM bR bB s 0 0 0 0 ⟨#[]⟩/\Keep w w.drew [b,bS,bP,bM,bB]:=⟨hV.drew,(Keep.refl w _).drew⟩
 have hSd:w.drew.cell? ⟨bN,0,none⟩=some (.func (.func 36) #[.pointer (some ⟨b,0,none⟩)] #[]):=hV.vN.cell;have hcN:=hV.vN.cell;have HN1:=Lib.hid hN1;have HN2:=Lib.hid hN2;clear hN1 hN2 hV h1 h2 hx
 go_enter Tryz.func39, Tryz.ntmps39
 go_wp2_with fail
 refine wp_region_held (S:=fun wx=>wx.cell? ⟨bN,0,none⟩=some (.func (.func 36) #[.pointer (some ⟨b,0,none⟩)] #[])) (by kernel_rfl) ?_
 change wpAnyH _ _ _ _ _ _ _ _ (World.drew _)
 refine wpAnyH_take (i:=0) (v:=(.func (.func 36) #[.pointer (some ⟨b,0,none⟩)] #[])) rfl (by kernel_rfl) (by kernel_rfl) (by kernel_rfl) (fun _ _ _ h=>h) (Or.inl ⟨by rfl,fun w hS=>?_⟩) hSd ?_
 ·go_simp
 refine wpAnyH_take (i:=2) (v:=(.func (.func 36) #[.pointer (some ⟨b,0,none⟩)] #[])) rfl (by kernel_rfl) (by kernel_rfl) (by kernel_rfl) (fun _ _ _ h=>h) (Or.inl ⟨by rfl,fun w hS=>?_⟩) hSd ?_
 ·go_simp
 refine wpAnyH_take (i:=4) (v:=(.func (.func 36) #[.pointer (some ⟨b,0,none⟩)] #[])) rfl (by kernel_rfl) (by kernel_rfl) (by kernel_rfl) (fun _ _ _ h=>h) (Or.inl ⟨by rfl,fun w hS=>?_⟩) hSd ?_
 ·go_simp
 refine wpAnyH_all (rs:=[1]) (by kernel_rfl) (by simp) ?_;intro i hi;obtain rfl:i=1:=by simpa using hi
 clear hi;unfold wpOp;go_simp
 refine Or.inl ((HN1.out _ h0).mono ?_);rintro e1 w1 ⟨rfl,hS1,hA1⟩;refine⟨hS1,?_⟩;clear h0;refine wpAnyH_all (rs:=[3]) (by kernel_rfl) (by simp) ?_;intro i hi;obtain rfl:i=3:=by simpa using hi
 clear hi;unfold wpOp;go_simp
 refine Or.inl ((HN2.out _ hA1).mono ?_);rintro e2 w2 ⟨rfl,hKx⟩;exact⟨rfl,⟨_,rfl⟩,hKx⟩
set_option maxHeartbeats 6400000 in
set_option maxRecDepth 100000 in
theorem un1_no3 (w:World) (b bN bS bP bM bR bB n1 k1 n2 k2:Nat) (s:ByteArray) (hV:Vs w b bN bS bP bM bR bB s 0 0 0 0 ⟨#[]⟩) (hs:s.size<=1000000) (hk:k1+k2<=s.size) (h1:gv 0 0 s.data.toList=(n1,k1,0)) (h2:gv 0 0 (s.data.toList.drop k1)=(n2,k2,0)) (h3:(gv 0 0 (s.data.toList.drop (k1+k2))).2.2≠0) :
  Calls Tryz.prog 39 #[.pointer (some ⟨bN,0,none⟩),.pointer (some ⟨bS,0,none⟩),.pointer (some ⟨bP,0,none⟩),.pointer (some ⟨bM,0,none⟩),.pointer (some ⟨bR,0,none⟩),.pointer (some ⟨bB,0,none⟩)] w fun e w' =>
   (∃p,e=.panicked [fault (gv 0 0 (s.data.toList.drop (k1+k2))).2.2 p])/\Keep w w' [b,bS,bP,bM,bB]:=by
 have mixed:Tryz.prog.follows .mixedOrders=true:=by kernel_rfl
 obtain⟨x,hx⟩:∃x,x=(gv 0 0 (s.data.toList.drop (k1+k2))).2.2:=⟨_,rfl⟩
 rw[<-hx];have hN1:∀w1,(Vs w1 b bN bS bP bM bR bB s (0) 0 0 0 ⟨#[]⟩/\Keep w w1 [b,bS,bP,bM,bB])->Calls Tryz.prog 36 #[.pointer (some ⟨b,0,none⟩)] w1 fun e w'=>e=.returned (.int .i64 (n1:Int))/\w'.cell? ⟨bN,0,none⟩=some (.func (.func 36) #[.pointer (some ⟨b,0,none⟩)] #[])/\Vs w' b bN bS bP bM bR bB s (0+k1) 0 0 0 ⟨#[]⟩/\Keep w w' [b,bS,bP,bM,bB]:=by
  rintro w1 ⟨hv,hkp⟩;refine(num_ok w1 b (0) n1 k1 s hv.ta hs (by omega) (by rw[List.drop_zero];exact h1)).mono ?_;rintro e w' ⟨rfl,rfl⟩;exact⟨rfl,(hv.set_p (0+k1)).vN.cell,hv.set_p (0+k1),hkp.set ⟨b,1,none⟩ (.inl (by simp)) _⟩
 have hN2:∀w1,(Vs w1 b bN bS bP bM bR bB s (0+k1) 0 0 0 ⟨#[]⟩/\Keep w w1 [b,bS,bP,bM,bB])->Calls Tryz.prog 36 #[.pointer (some ⟨b,0,none⟩)] w1 fun e w'=>e=.returned (.int .i64 (n2:Int))/\w'.cell? ⟨bN,0,none⟩=some (.func (.func 36) #[.pointer (some ⟨b,0,none⟩)] #[])/\Vs w' b bN bS bP bM bR bB s (0+k1+k2) 0 0 0 ⟨#[]⟩/\Keep w w' [b,bS,bP,bM,bB]:=by
  rintro w1 ⟨hv,hkp⟩;refine(num_ok w1 b (0+k1) n2 k2 s hv.ta hs (by omega) (by rw[Nat.zero_add];exact h2)).mono ?_;rintro e w' ⟨rfl,rfl⟩;exact⟨rfl,(hv.set_p (0+k1+k2)).vN.cell,hv.set_p (0+k1+k2),hkp.set ⟨b,1,none⟩ (.inl (by simp)) _⟩
 have hN3:∀w1,(Vs w1 b bN bS bP bM bR bB s (0+k1+k2) 0 0 0 ⟨#[]⟩/\Keep w w1 [b,bS,bP,bM,bB])->Calls Tryz.prog 36 #[.pointer (some ⟨b,0,none⟩)] w1 fun e w'=>e=.panicked [fault x (0+k1+k2)]/\Keep w w' [b,bS,bP,bM,bB]:=by
  rintro w1 ⟨hv,hkp⟩;refine(num_no w1 b (0+k1+k2) s hv.ta hs (by omega) (by rw[Nat.zero_add];exact h3)).mono ?_;rintro e w' ⟨rfl,rfl⟩;exact⟨by rw[hx,Nat.zero_add],hkp⟩
 have HV:=Lib.hid hV;have h0:Vs w.drew b bN bS bP bM bR bB s 0 0 0 0 ⟨#[]⟩/\Keep w w.drew [b,bS,bP,bM,bB]:=⟨hV.drew,(Keep.refl w _).drew⟩
 have hSd:w.drew.cell? ⟨bN,0,none⟩=some (.func (.func 36) #[.pointer (some ⟨b,0,none⟩)] #[]):=hV.vN.cell;have hcN:=hV.vN.cell;have HN1:=Lib.hid hN1;have HN2:=Lib.hid hN2;have HN3:=Lib.hid hN3;clear hN1 hN2 hN3 hV h1 h2 h3 hx
 go_enter Tryz.func39, Tryz.ntmps39
 go_wp2_with fail
 refine wp_region_held (S:=fun wx=>wx.cell? ⟨bN,0,none⟩=some (.func (.func 36) #[.pointer (some ⟨b,0,none⟩)] #[])) (by kernel_rfl) ?_
 change wpAnyH _ _ _ _ _ _ _ _ (World.drew _)
 refine wpAnyH_take (i:=0) (v:=(.func (.func 36) #[.pointer (some ⟨b,0,none⟩)] #[])) rfl (by kernel_rfl) (by kernel_rfl) (by kernel_rfl) (fun _ _ _ h=>h) (Or.inl ⟨by rfl,fun w hS=>?_⟩) hSd ?_
 ·go_simp
 refine wpAnyH_take (i:=2) (v:=(.func (.func 36) #[.pointer (some ⟨b,0,none⟩)] #[])) rfl (by kernel_rfl) (by kernel_rfl) (by kernel_rfl) (fun _ _ _ h=>h) (Or.inl ⟨by rfl,fun w hS=>?_⟩) hSd ?_
 ·go_simp
 refine wpAnyH_take (i:=4) (v:=(.func (.func 36) #[.pointer (some ⟨b,0,none⟩)] #[])) rfl (by kernel_rfl) (by kernel_rfl) (by kernel_rfl) (fun _ _ _ h=>h) (Or.inl ⟨by rfl,fun w hS=>?_⟩) hSd ?_
 ·go_simp
 refine wpAnyH_all (rs:=[1]) (by kernel_rfl) (by simp) ?_;intro i hi;obtain rfl:i=1:=by simpa using hi
 clear hi;unfold wpOp;go_simp
 refine Or.inl ((HN1.out _ h0).mono ?_);rintro e1 w1 ⟨rfl,hS1,hA1⟩;refine⟨hS1,?_⟩;clear h0;refine wpAnyH_all (rs:=[3]) (by kernel_rfl) (by simp) ?_;intro i hi;obtain rfl:i=3:=by simpa using hi
 clear hi;unfold wpOp;go_simp
 refine Or.inl ((HN2.out _ hA1).mono ?_);rintro e2 w2 ⟨rfl,hS2,hA2⟩;refine⟨hS2,?_⟩;clear hA1;refine wpAnyH_all (rs:=[5]) (by kernel_rfl) (by simp) ?_;intro i hi;obtain rfl:i=5:=by simpa using hi
 clear hi;unfold wpOp;go_simp
 refine Or.inl ((HN3.out _ hA2).mono ?_);rintro e3 w3 ⟨rfl,hKx⟩;exact⟨rfl,⟨_,rfl⟩,hKx⟩
end Sq
end Go.Proofs.YtjligbmickfbdaaGreat
