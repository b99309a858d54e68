/- varveref02.SameInts. The laws of squash: the probe. -/
import Derived.Test.YtjligbmickfbdaaGreatSp19
import Derived.Test.YtjligbmickfbdaaGreatSp47
import Derived.Test.YtjligbmickfbdaaGreatSp40
import Derived.Test.YtjligbmickfbdaaGreatSp46
namespace Go.Proofs.YtjligbmickfbdaaGreat
namespace Sm
open Go.RowKit
theorem take_eq_succ (a b:List Int) (k:Nat) (x:Int) (ha:a[k]? =some x) (hb:b[k]? =some x) (h:a.take k=b.take k):a.take (k+1)=b.take (k+1):=by
 rw[take_snoc_int a k x ha,take_snoc_int b k x hb,h]
set_option maxHeartbeats 800000 in
theorem same_any (A B:Option Addr) (n m c d:Nat) (a b:List Int) (w:World) (hn:n<=maxLen) (Ba Bb:Nat) (ha:Rd w Ba 1 A n (a.map (Value.int .i64))) (hb:Rd w Bb 1 B m (b.map (Value.int .i64))) :
  Calls Tryz.prog 10 #[.slice A n c,.slice B m d] w fun e w'=>e=.returned (.bool (a==b))/\ ∃q,w'=w.drewN q:=by
 have hla:a.length=n:=by simpa using ha.len
 have hlb:b.length=m:=by simpa using hb.len
 have Hla:=Lib.hid hla;have Hlb:=Lib.hid hlb;clear hla hlb;unfold maxLen at hn;by_cases hnm:n=m
 ·subst hnm
  go_enter Tryz.func10, Tryz.ntmps10
  go_wp2_with fail
  go_loopw [5] (fun i wr=>∃k q:Nat,i=.int .i64 k/\k<=n/\wr=w.drewN q/\Hid (a.take k=b.take k)) (fun i _=>n-(intOf i).toNat)
  case atStart=>exact⟨0,0,rfl,by omega,rfl,rfl⟩
  case round =>
   obtain⟨k,q,rfl,hk,rfl,heq⟩:=hrel;have ra:=ha;have rb:=hb;by_cases hlt:k<n
   ·obtain⟨aa,x,rfl,_,hx,hcx⟩:=ra.int1 hlt
    obtain⟨ab,y,rfl,_,hy,hcy⟩:=rb.int1 hlt;have Hx:=Lib.hid hx;have Hy:=Lib.hid hy;clear hx hy;by_cases hxy:x=y
    ·subst hxy
     go_wp2_with fail
     go_quiet (fail)
     go_wp2_with fail
     go_roundw
     case rel=>exact⟨k+1,_,by go_num,by omega,rfl,take_eq_succ a b k x Hx.out Hy.out heq.out⟩
     case measure=>simp[intOf];omega
    ·have hb1:(x==y)=false:=by rw[beq_eq_false_iff_ne];exact hxy
     have hb2:(x != y)=true:=by rw[bne_iff_ne];exact hxy
     have hne:(a==b)=false:=by
      rw[beq_eq_false_iff_ne];intro h;rw[h,Hy.out] at Hx;exact hxy (Option.some.inj Hx.out).symm
     have Hne:=Lib.hid hne;clear hne hxy;go_wp2_with fail
     go_quiet (fail)
     go_wp2_with fail
     go_ret
     exact⟨ret_bool Hne.out.symm,_,World.drewN_drewN _ _ _⟩
   ·go_wp2_with fail
    go_ret
    refine⟨ret_bool ?_,q,rfl⟩;have h:=heq.out;rw[List.take_of_length_le (by have:=Hla.out;omega),List.take_of_length_le (by have:=Hlb.out;omega)] at h;rw[h];simp
 ·have hne:(a==b)=false:=by
   rw[beq_eq_false_iff_ne];intro h;apply hnm
   rw[<-Hla.out,<-Hlb.out,h]
  rw[hne];clear hne;have hnm1:((n:Int) != (m:Int))=true:=by rw[bne_iff_ne];omega
  have hnm2:((n:Int)==(m:Int))=false:=by rw[beq_eq_false_iff_ne];omega
  have hnm3:(n==m)=false:=by rw[beq_eq_false_iff_ne];exact hnm
  go_enter Tryz.func10, Tryz.ntmps10
  go_wp2_with fail
  go_ret
  exact⟨rfl,0,rfl⟩
end Sm
end Go.Proofs.YtjligbmickfbdaaGreat
namespace Go.Proofs.YtjligbmickfbdaaGreat
namespace Sq
open Go.RowKit
theorem un_short (w:World):Calls Tryz.prog 16 #[.string ⟨#[0]⟩] w fun e w'=>e=.returned (.tuple #[.string ⟨#[]⟩,.int .i64 4])/\Below w.heap.size w w':=by
 have h4:(head (⟨#[0]⟩:ByteArray).data.toList).1=4:=head_short;refine(unpack_any ⟨#[0]⟩ w (by decide)).mono ?_;rintro e w' ⟨⟨r',hr,_⟩|⟨_,x,rfl,hx,hh⟩,hb⟩
 ·exfalso
  unfold unS at hr;rw[if_pos (by rw[h4];decide)] at hr;cases hr
 ·rw[h4] at hh
  rw[hh (by decide)];exact⟨rfl,hb⟩
theorem pack_nil (w:World):Calls Tryz.prog 6 #[.string ⟨#[]⟩] w fun e w'=>e=.returned (.tuple #[.string ⟨#[0,0,0,0,8,8]⟩,.int .i64 0])/\Below w.heap.size w w':=by
 refine(spack_any ⟨#[]⟩ w (by decide)).mono ?_;rintro e w' ⟨arr,hso,rfl,hb⟩;have ha:arr=[0]:=sorted_unique hso sorted_nil;subst ha;refine⟨?_,hb⟩;show Ending.returned (.tuple #[.string ⟨(packed [] [0]).toArray⟩,.int .i64 0])=_
 rw[packed_nil]
def banana:ByteArray:=⟨#[98,97,110,97,110,97]⟩
theorem pack_banana (w:World):Calls Tryz.prog 6 #[.string banana] w fun e w'=>(∃t:ByteArray,e=.returned (.tuple #[.string t,.int .i64 0])/\t.size<=200000/\unS t.data.toList=some [98,97,110,97,110,97])/\Below w.heap.size w w':=by
 refine(pack_un banana w (by decide)).mono ?_;rintro e w' ⟨t,arr,hso,ht,hts,rfl,hb⟩;refine⟨⟨t,rfl,hts,?_⟩,hb⟩;rw[ht];exact back hso (by decide)
theorem symbols_banana (w:World):Calls Tryz.prog 8 #[.string banana] w fun e w'=>∃A c,e=.returned (.tuple #[.slice A 6 c,.int .i64 4,.int .i64 0])/\Rd w' w'.heap.size 1 A 6 (([98,111,0,100,3,0]:List Int).map (Value.int .i64))/\Below w.heap.size w w':=by
 refine(symbols_any banana w (by decide)).mono ?_;rintro e w' ⟨arr,v,hso,rfl,hown,hb⟩;have ha:arr=[6,5,3,1,0,4,2]:=sorted_unique hso sorted_banana;subst ha;have hown2:Own w' w.heap.size v [98,111,0,100,3,0]:=by
  have h1:sy banana.data.toList [6,5,3,1,0,4,2]=[98,111,0,100,3,0]:=sy_banana
  rwa [h1] at hown
 obtain⟨A,c,rfl,_,_,hr⟩:=hown2.rd;refine⟨A,c,?_,hr,hb⟩;rw[pri_banana];rfl
set_option maxHeartbeats 6400000 in
set_option maxRecDepth 100000 in
theorem awake_any (w:World):Calls Tryz.prog 5 #[] w fun e w'=>e=.returned (.bool true)/\Below w.heap.size w w':=by
 have mixed:Tryz.prog.follows .mixedOrders=true:=by kernel_rfl
 go_enter Tryz.func5, Tryz.ntmps5
 go_wp2_with fail
 refine(pack_nil w).mono ?_;rintro e1 w1 ⟨rfl,hb1⟩;have H1:=Lib.hid hb1;clear hb1;go_wp2_with fail
 refine(un_yes _ [] w1 (by decide) un_nil).mono ?_;rintro e2 w2 ⟨rfl,hb2⟩;have H2:=Lib.hid (ext_trans H1.out hb2);clear hb2 H1;go_wp2_with fail
 refine(pack_banana w2).mono ?_;rintro e3 w3 ⟨⟨t,rfl,hts,hut⟩,hb3⟩;have H3:=Lib.hid (ext_trans H2.out hb3);have HU:=Lib.hid (fun w=>un_yes t _ w (by omega) hut);clear hb3 H2 hut hts;go_wp2_with fail
 refine(HU.out w3).mono ?_;rintro e4 w4 ⟨rfl,hb4⟩;have H4:=Lib.hid (ext_trans H3.out hb4);clear hb4 H3 HU;go_wp2_with fail
 refine(symbols_banana w4).mono ?_;rintro e5 w5 ⟨A,c,rfl,hr5,hb5⟩;have H5:=Lib.hid (ext_trans H4.out hb5);have HR5:=Lib.hid hr5;clear hb5 hr5 H4;go_wp2_with fail
 refine(un_short w5).mono ?_;rintro e6 w6 ⟨rfl,hb6⟩;have H6:=Lib.hid (ext_trans H5.out hb6);have HR6:=Lib.hid ((HR5.out.below hb6).more hb6.size);clear hb6 HR5 H5;go_wp2_with fail
 have hlit:=rd_lit w6 3 [98,111,0,100,3,0];have hbw:Below w6.heap.size w6 (w6.alloc (.cells (([98,111,0,100,3,0]:List Int).map (Value.int .i64)).toArray 3)):=(Below.refl _ _).alloc (Nat.le_refl _) _;have hbw2:Below w6.heap.size w6 (w6.alloc (.cells #[.int .i64 98,.int .i64 111,.int .i64 0,.int .i64 100,.int .i64 3,.int .i64 0] 3)):=hbw;have hlit2:Rd (w6.alloc (.cells #[.int .i64 98,.int .i64 111,.int .i64 0,.int .i64 100,.int .i64 3,.int .i64 0] 3)) (w6.alloc (.cells #[.int .i64 98,.int .i64 111,.int .i64 0,.int .i64 100,.int .i64 3,.int .i64 0] 3)).heap.size 1 (some ⟨w6.heap.size,0,none⟩) 6 (([98,111,0,100,3,0]:List Int).map (Value.int .i64)):=hlit;have HSM:=Lib.hid (Sm.same_any A (some ⟨w6.heap.size,0,none⟩) 6 6 c 6 [98,111,0,100,3,0] [98,111,0,100,3,0] _ (by decide) _ _ ((HR6.out.below hbw2).more hbw2.size) hlit2);have HB:=Lib.hid (ext_trans H6.out hbw2);clear hlit hbw hbw2 hlit2 HR6 H6;refine HSM.out.mono ?_;rintro e7 w7 ⟨rfl,q,rfl⟩;rw[show(([98,111,0,100,3,0]:List Int)== [98,111,0,100,3,0])=true from rfl];clear HSM;go_wp2_with fail
 go_ret
 exact⟨rfl,below_drewN HB.out q⟩
end Sq
end Go.Proofs.YtjligbmickfbdaaGreat
