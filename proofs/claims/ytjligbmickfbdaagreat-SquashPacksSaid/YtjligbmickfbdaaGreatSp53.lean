/- The reference's suffixes: a text's order, putting in; plain. varveref12.Array. varveref06: begun, place, moved, Ranks. varveref13.Forward. varveref06.Ranks. The reference's zrun: Digits, Pack. varveref02.Put. -/
import Derived.Test.YtjligbmickfbdaaGreatSp08
import Derived.Test.YtjligbmickfbdaaGreatSp49
import Derived.Test.YtjligbmickfbdaaGreatSp01
import Derived.Test.YtjligbmickfbdaaGreatSp13
import Derived.Test.YtjligbmickfbdaaGreatSp20
import Derived.Test.YtjligbmickfbdaaGreatSp18
import Derived.Test.YtjligbmickfbdaaGreatSp39
namespace Go.Proofs.YtjligbmickfbdaaGreat
namespace Rf
open Sx
theorem bl_drop (s:List UInt8):∀(L p q:Nat),p<=s.length->q<=s.length->s.length<p+L->s.length<q+L->(Op.bytesLess (s.drop p) (s.drop q)=true↔less s L p q)
 |0,p,q,hp,hq,h,_=>by omega
 |L+1,p,q,hp,hq,h,h'=>by
  rcases Nat.lt_or_ge q s.length with h1|h1
  ·rw[List.drop_eq_getElem_cons h1]
   rcases Nat.lt_or_ge p s.length with h2|h2
   ·rw[List.drop_eq_getElem_cons h2]
    show(decide (s[p]<s[q])||(s[p]==s[q]&&Op.bytesLess (s.drop (p+1)) (s.drop (q+1))))=true↔_
    have ih:=bl_drop s L (p+1) (q+1) (by omega) (by omega) (by omega) (by omega);simp only[Bool.or_eq_true,Bool.and_eq_true,decide_eq_true_eq,beq_iff_eq,less,tl_lt h1,tl_lt h2,ih];have e1:s[p]<s[q]↔s[p].toNat+1<s[q].toNat+1:=by rw[UInt8.lt_iff_toNat_lt];omega
    have e2:s[p]=s[q]↔s[p].toNat+1=s[q].toNat+1:=by rw[<-UInt8.toNat_inj];omega
    rw[e1,e2]
   ·rw[List.drop_eq_nil_of_le h2]
    have:less s (L+1) p q:=.inl (by rw[tl_ge h2,tl_lt h1];omega);exact⟨fun _=>this,fun _=>rfl⟩
  ·rw[List.drop_eq_nil_of_le h1]
   have hn: ¬ less s (L+1) p q:=by
    rintro (h|h)
    ·rw[tl_ge h1] at h;omega
    ·have hp2:s.length<=p:=by
      rcases Nat.lt_or_ge p s.length with h2|h2
      ·have:=h.1;rw[tl_ge h1,tl_lt h2] at this;omega
      ·exact h2
     obtain rfl:p=q:=by omega
     exact less_irrefl h.2
   refine⟨fun h=>?_,fun h=>absurd h hn⟩;cases hd:s.drop p<;>rw[hd] at h<;>cases h
theorem cmp_drop {s:ByteArray} {p q:Nat} {b:Bool} (hp:p<=s.size) (hq:q<=s.size) (h:less s.data.toList (s.data.toList.length+1) p q↔b=true):Op.bytesLess (s.extract p s.size).toList (s.extract q s.size).toList=b:=by
 have e:∀a,(s.extract a s.size).toList=s.data.toList.drop a:=fun a=>by
  rw[ByteArray.toList_eq,ByteArray.data_extract,Array.toList_extract,List.extract_eq_take_drop];exact List.take_of_length_le (by rw[List.length_drop];exact Nat.le_refl _)
 have hl:s.data.toList.length=s.size:=rfl;rw[e,e,Bool.eq_iff_iff,bl_drop s.data.toList (s.data.toList.length+1) p q (by omega) (by omega) (by omega) (by omega)];exact h
structure SrtTo (s:List UInt8) (p:Nat) (A:List Nat):Prop where
 perm:A.Perm (List.range p)
 srt:A.Pairwise fun p q=>less s (s.length+1) p q
theorem srtTo_nil (s:List UInt8):SrtTo s 0 []:=⟨List.Perm.refl _,List.Pairwise.nil⟩
theorem SrtTo.len {s:List UInt8} {p:Nat} {A:List Nat} (h:SrtTo s p A):A.length=p:=by rw[h.perm.length_eq,List.length_range]
theorem SrtTo.lt {s:List UInt8} {p:Nat} {A:List Nat} (h:SrtTo s p A) {x:Nat} (hx:x∈A):x<p:=List.mem_range.1 (h.perm.mem_iff.1 hx)
theorem SrtTo.put {s:List UInt8} {p k:Nat} {A:List Nat} (h:SrtTo s p A) (hp:p<=s.length) (hk:k<=A.length) (h1:∀x∈A.take k,less s (s.length+1) x p) (h2:∀x∈A.drop k,¬ less s (s.length+1) x p):SrtTo s (p+1) (A.take k++[p]++A.drop k):=by
 have h3:∀x∈A.drop k,less s (s.length+1) p x:=by
  intro x hx;have hlt:=h.lt (List.mem_of_mem_drop hx);rcases tri (s:=s) (s.length+1) p x with t|t|t
  ·exact t
  ·have:=same_end (by omega) (by omega) t (.inl (by omega));omega
  ·exact absurd t (h2 x hx)
 constructor
 ·rw[List.range_succ]
  refine List.Perm.trans (l₂:=A++[p]) ?_ (h.perm.append_right [p])
  conv=>rhs;rw[<-List.take_append_drop k A]
  rw[List.append_assoc,List.append_assoc];exact List.Perm.append_left _ List.perm_append_comm
 ·have hh:=h.srt
  rw[<-List.take_append_drop k A,List.pairwise_append] at hh;rw[List.append_assoc,List.pairwise_append];refine⟨hh.1,?_,?_⟩
  ·rw[List.singleton_append,List.pairwise_cons]
   exact⟨h3,hh.2.1⟩
  ·intro a ha b hb
   rw[List.singleton_append,List.mem_cons] at hb;rcases hb with rfl|hb
   ·exact h1 a ha
   ·exact hh.2.2 a ha b hb
theorem SrtTo.up {s:List UInt8} {p m:Nat} {A:List Nat} (h:SrtTo s p A) (hm:m<A.length) (hl:less s (s.length+1) A[m] p):∀x∈A.take (m+1),less s (s.length+1) x p:=by
 intro x hx;rw[List.take_add_one,List.getElem?_eq_getElem hm] at hx;rcases List.mem_append.1 hx with hx|hx
 ·have hh:=h.srt
  rw[<-List.take_append_drop m A,List.pairwise_append] at hh;exact less_trans (hh.2.2 x hx A[m] (by rw[List.drop_eq_getElem_cons hm];exact List.mem_cons_self)) hl
 ·simp at hx;subst hx;exact hl
theorem SrtTo.down {s:List UInt8} {p m:Nat} {A:List Nat} (h:SrtTo s p A) (hm:m<A.length) (hl: ¬ less s (s.length+1) A[m] p):∀x∈A.drop m,¬ less s (s.length+1) x p:=by
 intro x hx hc;rw[List.drop_eq_getElem_cons hm] at hx;rcases List.mem_cons.1 hx with rfl|hx
 ·exact hl hc
 ·have hh:=h.srt
  rw[<-List.take_append_drop (m+1) A,List.pairwise_append] at hh;exact hl (less_trans (hh.2.2 A[m] (by rw[List.take_add_one,List.getElem?_eq_getElem hm];exact List.mem_append_right _ (by simp)) x hx) hc)
theorem SrtTo.all {s:List UInt8} {A:List Nat} (h:SrtTo s (s.length+1) A):Sorted s A:=⟨h.perm,h.srt⟩
theorem sorted_uniq {s:List UInt8} {A B:List Nat} (ha:Sorted s A) (hb:Sorted s B):A=B :=
 List.Perm.eq_of_pairwise (le:=fun p q=>less s (s.length+1) p q) (fun a b _ _ h1 h2=>absurd (less_trans h1 h2) less_irrefl) ha.srt hb.srt (ha.perm.trans hb.perm.symm)
end Rf
end Go.Proofs.YtjligbmickfbdaaGreat
namespace Go.Proofs.YtjligbmickfbdaaGreat
namespace Rf
open Go.RowKit Sx
def cN (l:List Nat):List Value:=l.map fun(n:Nat)=>Value.int .i64 (n:Int)
theorem cN_one (l:List Nat):∀u∈cN l,u.oneCell'=true:=by
 intro u hu;obtain⟨x,_,rfl⟩:=List.mem_map.1 hu;rfl
theorem cN_mk (x:Nat):cN [x]=[.int .i64 (x:Int)]:=rfl
theorem cN_app (a b:List Nat):cN (a++b)=cN a++cN b:=List.map_append ..
theorem cN_take (l:List Nat) (k:Nat):(cN l).take (k*1)=cN (l.take k):=by rw[Nat.mul_one];exact(List.map_take ..).symm
theorem cN_drop (l:List Nat) (k:Nat):(cN l).drop (k*1)=cN (l.drop k):=by rw[Nat.mul_one];exact(List.map_drop ..).symm
theorem cN_len (l:List Nat):(cN l).length=l.length:=List.length_map ..
theorem argV_cell {w w':World} {ad:Addr} {n c k x:Nat} {l:List Nat} (h:ArgV w 1 (some ad) n c (cN l)) (hb:Below w.heap.size w w') (hk:l[k]? =some x):w'.cell? (ad.add k)=some (.int .i64 (x:Int)):=by
 have hn:0<n:=by
  have:=(List.getElem?_eq_some_iff.1 hk).1;have:=h.rd.len;rw[cN_len] at this;omega
 obtain⟨ad',e,_,hc⟩:=(h.rd.ext hb).cells hn;cases e
 exact hc k _ (by unfold cN;rw[List.getElem?_map,hk];rfl)
set_option maxHeartbeats 6400000 in
set_option maxRecDepth 100000 in
theorem refarray_any (s:ByteArray) (w:World) (hs:s.size<=20000) :
  Calls Tryz.prog 55 #[.string s] w fun e w'=>∃v A,e=.returned (.tuple #[v,.int .i64 0])/\Sorted s.data.toList A/\w'.ownsRow w.heap.size 3 1 v A.length (cN A)/\Below w.heap.size w w':=by
 have mixed:Tryz.prog.follows .mixedOrders=true:=by kernel_rfl
 have hsl:s.data.toList.length=s.size:=rfl;have HSL:=Lib.hid hsl;have h0: ¬ (s.size:Int)>20000:=by omega
 clear hsl
 go_enter Tryz.func55, Tryz.ntmps55
 go_wp2_with fail
 go_loopg [4,5] (s.size+1) (fun kx s4 s5 wr=>∃(p:Nat) (A:List Nat),s5=.int .i64 (p:Int)/\p<=s.size+1/\s.size+1-p<=kx/\Hid (SrtTo s.data.toList p A)/\Aside (wr.ownsRow w.heap.size 3 1 s4 p (cN A)/\Below w.heap.size w wr))
 case atStart=>exact⟨0,[],by go_num,by omega,by omega,srtTo_nil _,World.ownsRow_nil _ _ _ _,Below.refl _ _⟩
 case round =>
  obtain⟨p,A,rfl,hp,hpk,hA,H⟩:=hrel;obtain⟨Ao,co,rfl,harg⟩:=argV_of_own H.out.1;have hnc:=harg.nc;have hcm:co<=9223372036854775807:=by have:=harg.cm;unfold maxLen at this;omega
  have HAR:=Lib.hid harg;have HB:=Lib.hid H.out.2;have HO1:Aside (wr.ownsRow w.heap.size 3 1 (.slice Ao p co) p (cN A)):=H.out.1;have hAl:=hA.out.len;clear harg H;by_cases hin:p<=s.size
  ·go_wp2_with fail
   generalize wr=wo at *
   go_loopg [6,7] p (fun kx2 s6 s7 wi=>∃(lo hi:Nat),s6=.int .i64 (lo:Int)/\s7=.int .i64 (hi:Int)/\lo<=hi/\hi<=p/\hi-lo<=kx2/\Aside (Below wo.heap.size wo wi/\(∀x∈A.take lo,less s.data.toList (s.data.toList.length+1) x p)/\ ∀x∈A.drop hi,¬ less s.data.toList (s.data.toList.length+1) x p))
   case atStart=>exact⟨0,p,by go_num,by go_num,by omega,by omega,by omega,Below.refl _ _,by intro x hx;simp at hx,by rw[<-hAl,List.drop_length];intro x hx;simp at hx⟩
   case round =>
    obtain⟨lo,hi,rfl,rfl,hlh,hhp,hk2,HI⟩:=hrel;by_cases hlt:lo<hi
    ·obtain⟨m,hm⟩:∃m,m=(lo+hi)/2:=⟨_,rfl⟩
     have hm1:lo<=m:=by omega
     have hm2:m<hi:=by omega
     have hmI:((lo:Int)+(hi:Int))/2=(m:Int):=by omega
     have hml:m<A.length:=by omega
     obtain⟨ad,rfl⟩:=HAR.out.some (by omega);have hcell:=argV_cell (x:=A[m]) HAR.out HI.out.1 (List.getElem?_eq_getElem hml);have hql:=hA.out.lt (List.getElem_mem hml);by_cases hless:less s.data.toList (s.data.toList.length+1) A[m] p
     ·have hcmp:=cmp_drop (s:=s) (p:=A[m]) (q:=p) (b:=true) (by omega) hin ⟨fun _=>rfl,fun _=>hless⟩
      have hup:=Lib.hid (hA.out.up hml hless);generalize A[m]=q at *
      have g1:(0:Int)<=(q:Int):=by omega
      have g2:(q:Int)<=(s.size:Int):=by omega
      have g3:(0:Int)<=(p:Int):=by omega
      have g4:(p:Int)<=(s.size:Int):=by omega
      have g5:(m:Int)<(p:Int):=by omega
      have g6:(0:Int)<=(m:Int):=by omega
      clear hless hm;go_wp2_with fail
      go_quiet (fail)
      go_wp2_with fail
      go_roundg (hi-(m+1))
      case measure=>omega
      case rel=>exact⟨m+1,hi,by go_num,by go_num,by omega,by omega,by omega,below_drewN HI.out.1 _,hup.out,HI.out.2.2⟩
     ·have hcmp:=cmp_drop (s:=s) (p:=A[m]) (q:=p) (b:=false) (by omega) hin ⟨fun h=>absurd h hless,fun h=>by cases h⟩
      have hdn:=Lib.hid (hA.out.down hml hless);generalize A[m]=q at *
      have g1:(0:Int)<=(q:Int):=by omega
      have g2:(q:Int)<=(s.size:Int):=by omega
      have g3:(0:Int)<=(p:Int):=by omega
      have g4:(p:Int)<=(s.size:Int):=by omega
      have g5:(m:Int)<(p:Int):=by omega
      have g6:(0:Int)<=(m:Int):=by omega
      clear hless hm;go_wp2_with fail
      go_quiet (fail)
      go_wp2_with fail
      go_roundg (m-lo)
      case measure=>omega
      case rel=>exact⟨lo,m,by go_num,by go_num,by omega,by omega,by omega,below_drewN HI.out.1 _,HI.out.2.1,hdn.out⟩
    ·obtain rfl:lo=hi:=by omega
     have HPUT:=Lib.hid (hA.out.put (k:=lo) (by rw[HSL.out];exact hin) (by omega) HI.out.2.1 HI.out.2.2);rcases Nat.lt_or_ge lo p with hlp|hlp
     ·obtain⟨ad,rfl⟩:=HAR.out.some (by omega)
      go_wp2_with fail
      generalize wr=w3 at *
      have HB3:=Lib.hid (HB.out.trans (HI.out.1.mono HB.out.size));have HA3:=Lib.hid (HAR.out.ext HI.out.1);have hdr:Below w3.heap.size w3 w3.drew:=⟨rfl,rfl,rfl,Nat.le_refl _,fun _ _=>rfl⟩
      have HSd:Aside (Below w3.heap.size w3 w3.drew):=hdr;have HSa:Aside (Below w3.heap.size w3 (w3.drew.alloc (.cells #[] 3))):=hdr.trans (ext_alloc w3.drew (.cells #[] 3));have HSx:Aside (Below w3.heap.size w3 (w3.drew.alloc (.cells #[.int .i64 (p:Int)] 3))):=hdr.trans (ext_alloc w3.drew (.cells #[.int .i64 (p:Int)] 3));have HSax:Aside (Below w3.heap.size w3 ((w3.drew.alloc (.cells #[] 3)).alloc (.cells #[.int .i64 (p:Int)] 3))):=HSa.out.trans ((ext_alloc (w3.drew.alloc (.cells #[] 3)) (.cells #[.int .i64 (p:Int)] 3)).mono HSa.out.size);have HSxa:Aside (Below w3.heap.size w3 ((w3.drew.alloc (.cells #[.int .i64 (p:Int)] 3)).alloc (.cells #[] 3))):=HSx.out.trans ((ext_alloc (w3.drew.alloc (.cells #[.int .i64 (p:Int)] 3)) (.cells #[] 3)).mono HSx.out.size);have HOa:Aside ((w3.drew.alloc (.cells #[] 3)).ownsRow w3.heap.size 3 1 (.slice (some ⟨w3.heap.size,0,none⟩) 0 0) 0 []):=ownV_empty 3 w3.drew;have HOax:Aside (((w3.drew.alloc (.cells #[] 3)).alloc (.cells #[.int .i64 (p:Int)] 3)).ownsRow w3.heap.size 3 1 (.slice (some ⟨w3.heap.size,0,none⟩) 0 0) 0 []):=own_below HOa.out (ext_alloc (w3.drew.alloc (.cells #[] 3)) (.cells #[.int .i64 (p:Int)] 3)) (Nat.le_refl _);have HOxa:Aside (((w3.drew.alloc (.cells #[.int .i64 (p:Int)] 3)).alloc (.cells #[] 3)).ownsRow w3.heap.size 3 1 (.slice (some ⟨w3.heap.size+1,0,none⟩) 0 0) 0 []):=ownV_empty2 3 3 w3 w3.drew #[.int .i64 (p:Int)] rfl;have hkc:lo<=co:=by omega
      have HTK:=Lib.hid (fun(wx:World) (hb:Below w3.heap.size w3 wx)=>show Rd wx wx.heap.size 1 (some ad) lo (cN (A.take lo)) from by have h:=HA3.out.take (k:=lo) hb hhp;rwa [cN_take] at h);have hkn: ¬ co=lo:=by omega
      have HDR:=Lib.hid (fun(wx:World) (hb:Below w3.heap.size w3 wx)=>show Rd wx wx.heap.size 1 (some (ad.add lo)) (p-lo) (cN (A.drop lo)) from by have h:=HA3.out.drop (k:=lo) hb hlp;rwa [cN_drop,Nat.mul_one] at h);clear hdr HI;go_region_held3 (fun wx=>Below w3.heap.size w3 wx) (first|exact HSd.out|exact HSa.out|exact HSx.out|exact HSax.out|exact HSxa.out|assumption|exact hS4.trans ((ext_alloc w4 _).mono hS4.size)) (first
       |(refine step_appV intEl (.tmp 40) (.tmp 43) rfl rfl HOa.out (HTK.out _ HSa.out) HA3.out.no (cN_one _) (by omega) (by omega) HSa.out.size (by rfl) (by rfl) ?_;intro v4 w4 hown4 hb4 hg4;have hS4:=HSa.out.trans hb4)
       |(refine step_appV intEl (.tmp 40) (.tmp 43) rfl rfl HOax.out (HTK.out _ HSax.out) HA3.out.no (cN_one _) (by omega) (by omega) HSax.out.size (by rfl) (by rfl) ?_;intro v4 w4 hown4 hb4 hg4;have hS4:=HSax.out.trans hb4;have hrx:=rdV_far (sz:=1) (b:=w3.heap.size+1) (X:=[.int .i64 (p:Int)]) (t:=3) (w:=w3.drew.alloc (.cells #[] 3)) (g:=w3.heap.size) rfl (by simp) (show((w3.drew.alloc (.cells #[] 3)).alloc (.cells #[.int .i64 (p:Int)] 3)).grownBy w4 (some w3.heap.size) from hg4) (by simp))
       |(refine step_appV intEl (.tmp 40) (.tmp 43) rfl rfl HOxa.out (HTK.out _ HSxa.out) HA3.out.no (cN_one _) (by omega) (by omega) HSxa.out.size (by rfl) (by rfl) ?_;intro v4 w4 hown4 hb4 hg4;have hS4:=HSxa.out.trans hb4;have hrx:=rdV_far (sz:=1) (b:=w3.heap.size) (X:=[.int .i64 (p:Int)]) (t:=3) (w:=w3.drew) (g:=w3.heap.size+1) rfl rfl ((World.grownBy_alloc (w3.drew.alloc (.cells #[.int .i64 (p:Int)] 3)) (.cells #[] 3) (some (w3.heap.size+1))).trans (show((w3.drew.alloc (.cells #[.int .i64 (p:Int)] 3)).alloc (.cells #[] 3)).grownBy w4 (some (w3.heap.size+1)) from hg4)) (by simp))
       |(refine step_appV (c:=1) intEl (.tmp 44) (.tmp 46) rfl rfl (own_below hown4 (ext_alloc w4 (.cells #[.int .i64 (p:Int)] 3)) (Nat.le_refl _)) (rdV_new (sz:=1) 3 w4 [.int .i64 (p:Int)] rfl) (fun h=>by cases h) (fun u hu=>by simp at hu;subst hu;rfl) (by omega) (by omega) (Nat.le_trans hS4.size (ext_alloc w4 (.cells #[.int .i64 (p:Int)] 3)).size) (by rfl) (by rfl) ?_;intro v5 w5 hown5 hb5 hg5;have hS5:=hS4.trans (((ext_alloc w4 (.cells #[.int .i64 (p:Int)] 3)).mono hS4.size).trans hb5))
       |(refine step_appV (c:=1) intEl (.tmp 44) (.tmp 46) rfl rfl hown4 hrx (fun h=>by cases h) (fun u hu=>by simp at hu;subst hu;rfl) (by omega) (by omega) hS4.size (by rfl) (by rfl) ?_;intro v5 w5 hown5 hb5 hg5;have hS5:=hS4.trans hb5)
       |(refine step_appV (c:=co-lo) intEl (.tmp 47) (.tmp 50) rfl rfl hown5 (HDR.out _ hS5) (fun h=>by cases h) (cN_one _) (by omega) (by omega) hS5.size (by rfl) (by rfl) ?_;intro v6 w6 hown6 hb6 hg6;have hS6:=hS5.trans hb6))
      all_goals (
       have HX6:Aside (w6.ownsRow w.heap.size 3 1 v6 (p+1) (cN (A.take lo++[p]++A.drop lo))/\Below w.heap.size w w6):=by
        refine⟨?_,HB3.out.trans (hS6.mono HB3.out.size)⟩;rw[cN_app,cN_app,cN_mk];have hh:=own_lower hown6 HB3.out.size;rw[List.nil_append] at hh;have e:0+lo+1+(p-lo)=p+1:=by omega
        rw[e] at hh;exact hh
       clear hown6 hown5 hown4 hS6 hS5 hS4;go_wp2_with fail
       go_roundg (s.size-p)
       case measure=>omega
       case rel=>exact⟨p+1,A.take lo++[p]++A.drop lo,by go_num,by omega,by omega,HPUT.out,HX6.out⟩)
     ·obtain rfl:p=lo:=by omega
      go_wp2_with fail
      generalize wr=w3 at *
      have HB3:=Lib.hid (HB.out.trans (HI.out.1.mono HB.out.size));have HA3:=Lib.hid (HAR.out.ext HI.out.1);have hdr:Below w3.heap.size w3 w3.drew:=⟨rfl,rfl,rfl,Nat.le_refl _,fun _ _=>rfl⟩
      have HSd:Aside (Below w3.heap.size w3 w3.drew):=hdr;have HSa:Aside (Below w3.heap.size w3 (w3.drew.alloc (.cells #[] 3))):=hdr.trans (ext_alloc w3.drew (.cells #[] 3));have HSx:Aside (Below w3.heap.size w3 (w3.drew.alloc (.cells #[.int .i64 (p:Int)] 3))):=hdr.trans (ext_alloc w3.drew (.cells #[.int .i64 (p:Int)] 3));have HSax:Aside (Below w3.heap.size w3 ((w3.drew.alloc (.cells #[] 3)).alloc (.cells #[.int .i64 (p:Int)] 3))):=HSa.out.trans ((ext_alloc (w3.drew.alloc (.cells #[] 3)) (.cells #[.int .i64 (p:Int)] 3)).mono HSa.out.size);have HSxa:Aside (Below w3.heap.size w3 ((w3.drew.alloc (.cells #[.int .i64 (p:Int)] 3)).alloc (.cells #[] 3))):=HSx.out.trans ((ext_alloc (w3.drew.alloc (.cells #[.int .i64 (p:Int)] 3)) (.cells #[] 3)).mono HSx.out.size);have HOa:Aside ((w3.drew.alloc (.cells #[] 3)).ownsRow w3.heap.size 3 1 (.slice (some ⟨w3.heap.size,0,none⟩) 0 0) 0 []):=ownV_empty 3 w3.drew;have HOax:Aside (((w3.drew.alloc (.cells #[] 3)).alloc (.cells #[.int .i64 (p:Int)] 3)).ownsRow w3.heap.size 3 1 (.slice (some ⟨w3.heap.size,0,none⟩) 0 0) 0 []):=own_below HOa.out (ext_alloc (w3.drew.alloc (.cells #[] 3)) (.cells #[.int .i64 (p:Int)] 3)) (Nat.le_refl _);have HOxa:Aside (((w3.drew.alloc (.cells #[.int .i64 (p:Int)] 3)).alloc (.cells #[] 3)).ownsRow w3.heap.size 3 1 (.slice (some ⟨w3.heap.size+1,0,none⟩) 0 0) 0 []):=ownV_empty2 3 3 w3 w3.drew #[.int .i64 (p:Int)] rfl;have hkc:p<=co:=by omega
      have HTK:=Lib.hid (fun(wx:World) (hb:Below w3.heap.size w3 wx)=>show Rd wx wx.heap.size 1 Ao p (cN (A.take p)) from by have h:=HA3.out.take (k:=p) hb hhp;rwa [cN_take] at h);have HDR:=Lib.hid (fun(wx:World) (hb:Below w3.heap.size w3 wx)=>show Rd wx wx.heap.size 1 (if co=p then Ao else Ao.map (·.add p)) 0 (cN (A.drop p)) from by have h:=HA3.out.drop0 hb;rwa [cN_drop,Nat.mul_one] at h);clear hdr HI;go_region_held3 (fun wx=>Below w3.heap.size w3 wx) (first|exact HSd.out|exact HSa.out|exact HSx.out|exact HSax.out|exact HSxa.out|assumption|exact hS4.trans ((ext_alloc w4 _).mono hS4.size)) (first
       |(refine step_appV intEl (.tmp 40) (.tmp 43) rfl rfl HOa.out (HTK.out _ HSa.out) HA3.out.no (cN_one _) (by omega) (by omega) HSa.out.size (by rfl) (by rfl) ?_;intro v4 w4 hown4 hb4 hg4;have hS4:=HSa.out.trans hb4)
       |(refine step_appV intEl (.tmp 40) (.tmp 43) rfl rfl HOax.out (HTK.out _ HSax.out) HA3.out.no (cN_one _) (by omega) (by omega) HSax.out.size (by rfl) (by rfl) ?_;intro v4 w4 hown4 hb4 hg4;have hS4:=HSax.out.trans hb4;have hrx:=rdV_far (sz:=1) (b:=w3.heap.size+1) (X:=[.int .i64 (p:Int)]) (t:=3) (w:=w3.drew.alloc (.cells #[] 3)) (g:=w3.heap.size) rfl (by simp) (show((w3.drew.alloc (.cells #[] 3)).alloc (.cells #[.int .i64 (p:Int)] 3)).grownBy w4 (some w3.heap.size) from hg4) (by simp))
       |(refine step_appV intEl (.tmp 40) (.tmp 43) rfl rfl HOxa.out (HTK.out _ HSxa.out) HA3.out.no (cN_one _) (by omega) (by omega) HSxa.out.size (by rfl) (by rfl) ?_;intro v4 w4 hown4 hb4 hg4;have hS4:=HSxa.out.trans hb4;have hrx:=rdV_far (sz:=1) (b:=w3.heap.size) (X:=[.int .i64 (p:Int)]) (t:=3) (w:=w3.drew) (g:=w3.heap.size+1) rfl rfl ((World.grownBy_alloc (w3.drew.alloc (.cells #[.int .i64 (p:Int)] 3)) (.cells #[] 3) (some (w3.heap.size+1))).trans (show((w3.drew.alloc (.cells #[.int .i64 (p:Int)] 3)).alloc (.cells #[] 3)).grownBy w4 (some (w3.heap.size+1)) from hg4)) (by simp))
       |(refine step_appV (c:=1) intEl (.tmp 44) (.tmp 46) rfl rfl (own_below hown4 (ext_alloc w4 (.cells #[.int .i64 (p:Int)] 3)) (Nat.le_refl _)) (rdV_new (sz:=1) 3 w4 [.int .i64 (p:Int)] rfl) (fun h=>by cases h) (fun u hu=>by simp at hu;subst hu;rfl) (by omega) (by omega) (Nat.le_trans hS4.size (ext_alloc w4 (.cells #[.int .i64 (p:Int)] 3)).size) (by rfl) (by rfl) ?_;intro v5 w5 hown5 hb5 hg5;have hS5:=hS4.trans (((ext_alloc w4 (.cells #[.int .i64 (p:Int)] 3)).mono hS4.size).trans hb5))
       |(refine step_appV (c:=1) intEl (.tmp 44) (.tmp 46) rfl rfl hown4 hrx (fun h=>by cases h) (fun u hu=>by simp at hu;subst hu;rfl) (by omega) (by omega) hS4.size (by rfl) (by rfl) ?_;intro v5 w5 hown5 hb5 hg5;have hS5:=hS4.trans hb5)
       |(refine step_appV intEl (.tmp 47) (.tmp 50) rfl rfl hown5 (HDR.out _ hS5) (by have h:=HA3.out.drop0_no;rwa [Nat.mul_one] at h) (cN_one _) (by omega) (by omega) hS5.size (by rfl) (by rfl) ?_;intro v6 w6 hown6 hb6 hg6;have hS6:=hS5.trans hb6))
      all_goals (
       have HX6:Aside (w6.ownsRow w.heap.size 3 1 v6 (p+1) (cN (A.take p++[p]++A.drop p))/\Below w.heap.size w w6):=by
        refine⟨?_,HB3.out.trans (hS6.mono HB3.out.size)⟩;rw[cN_app,cN_app,cN_mk];have hh:=own_lower hown6 HB3.out.size;rw[List.nil_append] at hh;have e:0+p+1+0=p+1:=by omega
        rw[e] at hh;exact hh
       clear hown6 hown5 hown4 hS6 hS5 hS4;go_wp2_with fail
       all_goals (
        go_roundg (s.size-p)
        case measure=>omega
        case rel=>exact⟨p+1,A.take p++[p]++A.drop p,by go_num,by omega,by omega,HPUT.out,HX6.out⟩))
  ·obtain rfl:p=s.size+1:=by omega
   have HAL:Aside (Sorted s.data.toList A):=SrtTo.all (by rw[HSL.out];exact hA.out);have h3: ¬ ((s.size+1:Nat):Int)<=(s.size:Int):=by omega
   have HO:Aside (wr.ownsRow w.heap.size 3 1 (.slice Ao (s.size+1) co) A.length (cN A)/\Below w.heap.size w wr):=⟨by rw[hAl];exact HO1.out,HB.out⟩
   clear hA hAl hin;go_wp2_with fail
   go_ret2
   first|exact⟨_,A,rfl,HAL.out,HO.out⟩|exact⟨_,rfl,A,HAL.out,HO.out⟩
end Rf
end Go.Proofs.YtjligbmickfbdaaGreat
namespace Go.Proofs.YtjligbmickfbdaaGreat
namespace Rf
open Go.RowKit Fr
def rowT (l:List UInt8):ByteArray:=⟨l.toArray⟩
theorem rowT_list (l:List UInt8):(rowT l).data.toList=l:=rfl
theorem rowT_size (l:List UInt8):(rowT l).size=l.length:=by unfold rowT;simp[ByteArray.size]
theorem rowT_get {l:List UInt8} {i:Nat} (h:i<(rowT l).size):(rowT l)[i]=l[i]'(by rw[<-rowT_size];exact h):=rfl
theorem plc_hit {c:UInt8} {l:List UInt8} {i:Nat} (h:i<l.length) (hx:l[i]=c):plc c (l.drop i)=0:=by
 rw[List.drop_eq_getElem_cons h,plc];exact if_pos hx
theorem plc_miss {c:UInt8} {l:List UInt8} {i:Nat} (h:i<l.length) (hx:l[i]≠c):plc c (l.drop i)=plc c (l.drop (i+1))+1:=by
 rw[List.drop_eq_getElem_cons h,plc];exact if_neg hx
set_option maxHeartbeats 1600000 in
set_option maxRecDepth 100000 in
theorem begun_any (w:World):Calls Tryz.prog 57 #[] w fun e w'=>e=.returned (.string (rowT row0))/\Below w.heap.size w w':=by
 go_enter Tryz.func57, Tryz.ntmps57
 go_wp2_with fail
 go_loopg [1,2] 256 (fun kx s1 s2 wr=>∃(i:Nat),s2=.int .i64 (i:Int)/\i<=256/\256-i<=kx/\Aside (OwnB wr w.heap.size s1 ((List.range i).map UInt8.ofNat)/\Below w.heap.size w wr))
 case atStart=>exact⟨0,by go_num,by omega,by omega,World.ownsRow_nil _ _ _ _,Below.refl _ _⟩
 case round =>
  obtain⟨i,rfl,hi,hik,H⟩:=hrel;by_cases hlt:i<256
  ·have hzz:Hid ((i:Int)=((UInt8.ofNat i).toNat:Int)):=by show _=_;simp only[UInt8.toNat_ofNat'];omega
   have hll:((List.range i).map UInt8.ofNat).length<=256:=by simp;omega
   go_wp2_with (at_builtin;refine appendB (UInt8.ofNat i) hzz.out H.out.1 (by omega) H.out.2.size ?_;intro A1 n1 c1 w1 _ hown1 hb1 _ _)
   go_roundg (255-i)
   case measure=>omega
   case rel=>exact⟨i+1,by go_num,by omega,by omega,by rw[List.range_succ,List.map_append];exact hown1,H.out.2.trans hb1⟩
  ·have h2: ¬ (i:Int)<256:=by omega
   obtain⟨A2,c2,rfl,-,-,hrd2⟩:=H.out.1.rd;have hs2:=run_str (c:=c2) hrd2;have hH:=H.out.2;have he:(List.range i).map UInt8.ofNat=row0:=by rw[show i=256 by omega];rfl
   rw[show((List.range i).map UInt8.ofNat).length=i by simp,he] at hs2;have hs2:_=Result.ok (Value.string (rowT row0)) _:=hs2;clear H he hi hik hlt;go_wp2_with fail
   go_ret
   exact⟨rfl,hH⟩
set_option maxHeartbeats 1600000 in
set_option maxRecDepth 100000 in
theorem place_any (l:List UInt8) (c:UInt8) (w:World) (hc:c∈l) (hs:l.length<=256) :
  Calls Tryz.prog 58 #[.string (rowT l),.int .u8 (c.toNat:Int)] w fun e w'=>e=.returned (.int .i64 (plc c l:Int))/\w=w':=by
 obtain⟨hp,-⟩:=plc_lt c l hc
 go_enter Tryz.func58, Tryz.ntmps58
 go_wp2_with fail
 go_loopg [5] 256 (fun kx s5 wr=>∃(i:Nat),s5=.int .i64 (i:Int)/\i<=plc c l/\256-i<=kx/\Hid (plc c (l.drop i)+i=plc c l)/\Aside (w=wr))
 case atStart=>exact⟨0,by go_num,by omega,by omega,by show _=_;simp,rfl⟩
 case round =>
  obtain⟨i,rfl,hi,hik,he,hw⟩:=hrel;obtain rfl:=hw.out;have hil:i<l.length:=by omega
  have hsz:i<(rowT l).size:=by rw[rowT_size];exact hil
  have hg:=rowT_get hsz;have hee:=he.out;by_cases hx:l[i]=c
  ·rw[plc_hit hil hx,Nat.zero_add] at hee
   have hq:((rowT l)[i].toNat:Int)=(c.toNat:Int):=by rw[hg.trans hx]
   have hee2:=Lib.hid hee;clear hee he hg;go_wp2_with fail
   go_ret
   exact⟨by rw[<-hee2.out];rfl,rfl⟩
  ·rw[plc_miss hil hx] at hee
   have hne: ¬ ((rowT l)[i].toNat:Int)=(c.toNat:Int):=by
    rw[hg];intro h;exact hx (UInt8.toNat_inj.1 (by omega))
   have hee:Hid (plc c (l.drop (i+1))+(i+1)=plc c l):=by show _=_;omega
   have hi2:i+1<=plc c l:=by have:=hee.out;omega
   clear hg;go_wp2_with fail
   go_roundg (255-i)
   case measure=>omega
   case rel=>exact⟨i+1,by go_num,hi2,by omega,hee,rfl⟩
theorem rowT_mv {l:List UInt8} {i:Nat} (h:i<l.length):(rowT l).extract i (i+1)++(rowT l).extract 0 i++(rowT l).extract (i+1) (rowT l).size=rowT (mv l i):=by
 rw[mv_some (List.getElem?_eq_getElem h)];apply ByteArray.ext
 apply Array.toList_inj.1
 have e:∀a b,((rowT l).extract a b).data.toList=(l.drop a).take (b-a):=fun a b=>by
  rw[ByteArray.data_extract,Array.toList_extract];exact List.extract_eq_take_drop ..
 rw[ByteArray.data_append,ByteArray.data_append,Array.toList_append,Array.toList_append,e,e,e,rowT_size,rowT_list,List.drop_zero,Nat.sub_zero,show i+1-i=1 by omega,List.take_of_length_le (l:=l.drop (i+1)) (by simp),List.append_assoc];rw[List.drop_eq_getElem_cons h];rfl
set_option maxHeartbeats 3200000 in
set_option maxRecDepth 100000 in
theorem moved_any (l:List UInt8) (i:Nat) (w:World) (h:i<l.length) (hs:l.length<=256) :
  Calls Tryz.prog 59 #[.string (rowT l),.int .i64 (i:Int)] w fun e w'=>e=.returned (.string (rowT (mv l i)))/\Below w.heap.size w w':=by
 have he:=rowT_mv h;have hz:=rowT_size l;rw[hz] at he;have e1:((rowT l).extract i (i+1)).size=1:=by rw[ByteArray.size_extract];omega
 have e2:((rowT l).extract 0 i).size=i:=by rw[ByteArray.size_extract];omega
 have e3:((rowT l).extract (i+1) l.length).size=l.length-(i+1):=by rw[ByteArray.size_extract];omega
 have e4:((rowT l).extract i (i+1)++(rowT l).extract 0 i).size=1+i:=by rw[ByteArray.size_append];omega
 have f1:((rowT l).extract i (i+1)).size+((rowT l).extract 0 i).size<=9223372036854775807:=by omega
 have f2:((rowT l).extract i (i+1)++(rowT l).extract 0 i).size+((rowT l).extract (i+1) l.length).size<=9223372036854775807:=by omega
 clear e1 e2 e3 e4;have mixed:Tryz.prog.follows .mixedOrders=true:=by kernel_rfl
 have g1:(0:Int)<=(i:Int):=by omega
 have g2:(i:Int)<=(i:Int)+1:=by omega
 have g3:(i:Int)+1<=(l.length:Int):=by omega
 have g4:(i:Int)<=(l.length:Int):=by omega
 have g5:(0:Int)<=(i:Int)+1:=by omega
 go_enter Tryz.func59, Tryz.ntmps59
 go_wp2_with fail
 go_quiet (fail)
 go_wp2_with fail
 go_ret
 exact⟨rfl,ext_drewN _ _⟩
end Rf
end Go.Proofs.YtjligbmickfbdaaGreat
namespace Go.Proofs.YtjligbmickfbdaaGreat
namespace Rf
open Go.RowKit Sx Bw
theorem lst_zero {s:List UInt8} {A:List Nat} {i:Nat} (h:A[i]? =some 0):lst s (A.take (i+1))=lst s (A.take i):=by
 unfold lst;rw[List.take_add_one,h,List.filter_append];simp
theorem lst_snoc {s:List UInt8} {A:List Nat} {i r:Nat} (h:A[i]? =some (r+1)):lst s (A.take (i+1))=lst s (A.take i)++[s.getD r 0]:=by
 unfold lst;rw[List.take_add_one,h,List.filter_append,List.map_append];simp
theorem rowT_snoc {s:ByteArray} {X:List UInt8} {r:Nat} (h:r<s.size):rowT X++s.extract r (r+1)=rowT (X++[s.data.toList.getD r 0]):=by
 have hl:s.data.toList.length=s.size:=rfl;apply ByteArray.ext
 apply Array.toList_inj.1
 rw[ByteArray.data_append,Array.toList_append,ByteArray.data_extract,Array.toList_extract,rowT_list,List.extract_eq_take_drop,rowT_list,show r+1-r=1 by omega,List.drop_eq_getElem_cons (by omega),List.getD_eq_getElem?_getD,List.getElem?_eq_getElem (by omega)];rfl
theorem pri_is {s:List UInt8} {A:List Nat} (h:Sorted s A) {i:Nat} (hi:A[i]? =some 0):pri A=i:=by
 obtain⟨X,Y,e,hl,hX,hY⟩:=pri_at h;rw[<-hl];rw[e] at hi;rcases Nat.lt_trichotomy i X.length with h1|h1|h1
 ·rw[List.getElem?_append_left h1,List.getElem?_eq_getElem h1] at hi
  exact absurd (Option.some.inj hi) (hX _ (List.getElem_mem h1))
 ·exact h1.symm
 ·rw[List.getElem?_append_right (by omega),show i-X.length=(i-X.length-1)+1 by omega,List.getElem?_cons_succ] at hi
  exact absurd rfl (hY 0 (List.mem_of_getElem? hi))
theorem mem_take_succ {A:List Nat} {i x:Nat} (h:A[i]? =some (x+1)):0∈A.take (i+1)↔0∈A.take i:=by
 rw[List.take_add_one,h,List.mem_append];simp
theorem lst_le (s:List UInt8) (A:List Nat) (i:Nat):(lst s (A.take i)).length<=i:=by
 unfold lst;rw[List.length_map];exact Nat.le_trans (List.length_filter_le _ _) (by rw[List.length_take];omega)
set_option maxHeartbeats 6400000 in
set_option maxRecDepth 100000 in
theorem refforward_any (s:ByteArray) (w:World) (hs:s.size<=20000) :
  Calls Tryz.prog 24 #[.string s] w fun e w'=>∃A,Sorted s.data.toList A/\e=.returned (.tuple #[.string (rowT (lst s.data.toList A)),.int .i64 (pri A:Int),.int .i64 0])/\Below w.heap.size w w':=by
 have HC:=Lib.hid (refarray_any s w hs);have HSL:Hid (s.data.toList.length=s.size):=rfl
 go_enter Tryz.func24, Tryz.ntmps24
 go_wp2_with (go_at_call 55;refine HC.out.mono ?_;rintro e1 w1 ⟨v1,A,rfl,hA,hown1,hb1⟩)
 obtain⟨Ao,co,rfl,harg⟩:=argV_of_own hown1;have hAl:=A_len hA;rw[HSL.out] at hAl;have HA:=Lib.hid hA;have HAR:=Lib.hid harg;have HB1:=Lib.hid hb1;generalize hN:A.length=N at *
 have hNb:N<=20001:=by omega
 have HAL:=Lib.hid hAl;have HN:=Lib.hid hN;clear hA harg hb1 hown1 hAl hN;go_wp2_with fail
 go_loopg [7,8,9] N (fun kx s7 s8 s9 wr=>∃(i pr:Nat),s9=.int .i64 (i:Int)/\s8=.int .i64 (pr:Int)/\s7=.string (rowT (lst s.data.toList (A.take i)))/\i<=N/\N-i<=kx/\Hid (0∈A.take i->pr=pri A)/\Aside (w1=wr))
 case atStart=>exact⟨0,0,by go_num,by go_num,rfl,by omega,by omega,(fun h=>by simp at h),rfl⟩
 case round =>
  obtain⟨i,pr,rfl,rfl,rfl,hi,hik,hpr,hw⟩:=hrel;obtain rfl:=hw.out;by_cases hin:i<N
  ·have hli:=lst_le s.data.toList A i
   have hget:A[i]? =some (A[i]'(by rw[HN.out];exact hin)):=List.getElem?_eq_getElem _;have hmem:=(A_mem HA.out (A[i]'(by rw[HN.out];exact hin))).1 (List.getElem_mem _);rw[HSL.out] at hmem;obtain⟨ad,rfl⟩:=HAR.out.some (by omega);have hcell:=argV_cell HAR.out (Below.refl _ _) hget;generalize A[i]'_=q at *
   rcases q with _|r
   ·have hcell:w1.cell? (ad.add i)=some (.int .i64 0):=hcell
    have HL:=Lib.hid (lst_zero (s:=s.data.toList) hget);have HP:=Lib.hid (pri_is HA.out hget);clear hget hmem;go_wp2_with fail
    go_roundg (N-(i+1))
    case measure=>omega
    case rel=>exact⟨i+1,i,by go_num,by go_num,by rw[HL.out],by omega,by omega,(fun _=>HP.out.symm),rfl⟩
   ·have hcell:w1.cell? (ad.add i)=some (.int .i64 ((r:Int)+1)):=by rw[hcell];rfl
    have HL:=Lib.hid (lst_snoc (s:=s.data.toList) hget);have HM:=Lib.hid (mem_take_succ hget);have hcat:=rowT_snoc (s:=s) (X:=lst s.data.toList (A.take i)) (r:=r) (by omega);have hz:(rowT (lst s.data.toList (A.take i))).size+(s.extract r (r+1)).size<=9223372036854775807:=by
     rw[rowT_size,ByteArray.size_extract];omega
    have g1:(0:Int)<=(r:Int):=by omega
    have g2:(r:Int)<=(r:Int)+1:=by omega
    have g3:(r:Int)+1<=(s.size:Int):=by omega
    have g4: ¬ ((r:Int)+1=0):=by omega
    clear hget hmem;rw[<-HL.out] at hcat;generalize lst s.data.toList (A.take i)=X at *
    generalize hYe:rowT (lst s.data.toList (A.take (i+1)))=Y at *
    have HY:=Lib.hid hYe;clear hYe;go_wp2_with fail
    go_roundg (N-(i+1))
    case measure=>omega
    case rel=>exact⟨i+1,pr,by go_num,by go_num,by rw[HY.out],by omega,by omega,(fun h=>hpr.out (HM.out.1 h)),rfl⟩
  ·obtain rfl:i=N:=by omega
   have h0:(0:Nat)∈A.take i:=by
    rw[<-HN.out,List.take_length];exact(A_mem HA.out 0).2 (by omega)
   have HP:=Lib.hid (hpr.out h0);have HT:Hid (lst s.data.toList (A.take i)=lst s.data.toList A):=by show _=_;rw[<-HN.out,List.take_length]
   clear hpr h0;go_wp2_with fail
   go_ret3
   exact⟨A,HA.out,by rw[HT.out,HP.out];rfl,HB1.out⟩
end Rf
end Go.Proofs.YtjligbmickfbdaaGreat
namespace Go.Proofs.YtjligbmickfbdaaGreat
namespace Rf
open Go.RowKit Fr
theorem rks_step {R0 row:List UInt8} {s:List UInt8} {acc:List Int} {i:Nat} (h:i<s.length) (he:acc++rks row (s.drop i)=rks R0 s) :
  (acc++[(plc s[i] row:Int)])++rks (mv row (plc s[i] row)) (s.drop (i+1))=rks R0 s:=by
 rw[<-he,List.drop_eq_getElem_cons h,rks];simp
set_option maxHeartbeats 6400000 in
set_option maxRecDepth 100000 in
theorem ranks_any (s:ByteArray) (w:World) (hs:s.size<=1000000) :
  Calls Tryz.prog 26 #[.string s] w fun e w'=>∃v,e=.returned v/\Own w' w.heap.size v (rks row0 s.data.toList)/\Below w.heap.size w w':=by
 have hln:s.data.toList.length=s.size:=rfl;have HB:=Lib.hid (fun w=>begun_any w);have HP:=Lib.hid (fun l c w=>place_any l c w);have HM:=Lib.hid (fun l i w=>moved_any l i w);have H0:Aside (row0.length=256/\ ∀c,c∈row0):=⟨length_row0,row0_mem⟩
 have hrz:=Lib.hid hln;clear hln;generalize hR:row0=R0 at *
 clear hR
 go_enter Tryz.func26, Tryz.ntmps26
 go_wp2_with (go_at_call 57;refine(HB.out _).mono ?_;rintro e1 w1 ⟨rfl,hb1⟩)
 have H1:Aside (Below w.heap.size w w1):=hb1;clear hb1;go_loopg [3,4,5] s.size (fun kx s3 s4 s5 wr=>∃(i:Nat) (row:List UInt8) (acc:List Int),s5=.int .i64 (i:Int)/\s3=.string (rowT row)/\i<=s.size/\s.size-i<=kx/\Aside (row.length=256/\ ∀c,c∈row)/\acc.length=i/\Hid (acc++rks row (s.data.toList.drop i)=rks R0 s.data.toList)/\Aside (Own wr w.heap.size s4 acc/\Below w.heap.size w wr))
 case atStart=>exact⟨0,R0,[],by go_num,rfl,by omega,by omega,H0,rfl,by show _=_;simp,World.ownsRow_nil _ _ _ _,H1.out⟩
 case round =>
  obtain⟨i,row,acc,rfl,rfl,hi,hik,hrow,hacc,he,H⟩:=hrel;by_cases hlt:i<s.size
  ·have hst:=rks_step (i:=i) (by rw[hrz.out];exact hlt) he.out
   have hg:s[i]=s.data.toList[i]'(by rw[hrz.out];exact hlt):=rfl;rw[<-hg] at hst;clear hg;have hc:=hrow.out.2 s[i];have hpl:=(plc_lt _ _ hc).1;rw[hrow.out.1] at hpl;have hst:=Lib.hid hst;have hmv:Aside ((mv row (plc s[i] row)).length=256/\ ∀c,c∈mv row (plc s[i] row)):=⟨by rw[length_mv];exact hrow.out.1,fun c=>(mv_perm _ _).mem_iff.2 (hrow.out.2 c)⟩
   have HP2:=Lib.hid (fun w=>HP.out row s[i] w hc (by rw[hrow.out.1];omega));have HM2:=Lib.hid (fun w=>HM.out row (plc s[i] row) w (by rw[hrow.out.1];exact hpl) (by rw[hrow.out.1];omega));generalize hci:s[i]=c at *
   have hci:s[i]=c:=hci;generalize plc c row=p at *
   generalize mv row p=row2 at *
   clear hc he HP HM hrow;go_wp2_with (first|(go_at_call 58;refine(HP2.out _).mono ?_;rintro e2 w2 ⟨rfl,rfl⟩)|(go_at_call 59;refine(HM2.out _).mono ?_;rintro e3 w3 ⟨rfl,hb3⟩)|(at_builtin;refine append1 H.out.1 (by omega) H.out.2.size ?_;intro A4 n4 c4 w4 hn4 hown4 hb4 hg4 _))
   go_roundg (s.size-(i+1))
   case measure=>omega
   case rel=>exact⟨i+1,row2,acc++[(p:Int)],by go_num,rfl,by omega,by omega,hmv,by simp;omega,hst,hown4.below hb3 (Nat.le_refl _),ext_trans (H.out.2.trans hb4) hb3⟩
  ·obtain rfl:i=s.size:=by omega
   have hee:=he.out;rw[<-hrz.out,List.drop_length,rks,List.append_nil] at hee;have H2:Aside (Own wr w.heap.size u4 (rks R0 s.data.toList)/\Below w.heap.size w wr):=⟨hee▸H.out.1,H.out.2⟩
   clear H he hee hacc hrz;go_wp2_with fail
   go_ret
   exact⟨_,rfl,H2.out⟩
end Rf
end Go.Proofs.YtjligbmickfbdaaGreat
namespace Go.Proofs.YtjligbmickfbdaaGreat
namespace Zr
open Go.RowKit
set_option maxHeartbeats 800000 in
theorem digitsR_any (n:Int) (h0:n<=9223372036854775807) (w:World) :
  Calls Tryz.prog 56 #[.int .i64 n] w fun e w'=>∃v,e=.returned v/\Own w' w.heap.size v (digits n)/\Below w.heap.size w w':=by
 by_cases h1:n<1
 ·have hd:digits n=[]:=if_pos h1
  rw[hd];clear hd
  go_enter Tryz.func56, Tryz.ntmps56
  go_wp2_with fail
  go_rounds 1
  go_wp2_with fail
  go_ret
  exact⟨_,rfl,World.ownsRow_nil _ _ _ _,Below.refl _ _⟩
 ·obtain⟨N,rfl⟩:=Int.eq_ofNat_of_zero_le (show 0<=n by omega)
  rw[digits_nat];have hlen:=length_digTo (N+1) (by omega) (by omega);rw[<-digR_eq] at hlen ⊢;clear h1
  go_enter Tryz.func56, Tryz.ntmps56
  go_wp2_with fail
  go_loopw [0,3] (fun m v wr=>∃(mk:Nat) (acc:List Int),m=.int .i64 mk/\mk<=N/\Hid (acc++digR mk=digR N)/\acc.length<=63/\Own wr w.heap.size v acc/\Below w.heap.size w wr) (fun m _ _=>(intOf m).toNat)
  case atStart=>exact⟨N,[],rfl,by omega,rfl,by simp,World.ownsRow_nil _ _ _ _,Below.refl _ _⟩
  case round =>
   obtain⟨mk,acc,rfl,hm1,heq,hacc,hown,hbw⟩:=hrel;by_cases hlt:0<mk
   ·have hst:=digR_step hlt
    have hac:(acc++[(2-(mk%2:Nat):Int)])++digR ((mk-(2-mk%2))/2)=digR N:=by
     have:=heq.out;rw[hst] at this;simpa using this
    have hll:=congrArg List.length hac;simp only[List.length_append,List.length_cons,List.length_nil] at hll;have Hac:=Lib.hid hac;clear hst hac;go_wp2_with (at_builtin;(refine append1 hown (by omega) hbw.size ?_);intro A1 n1 c1 w1 _ hown1 hb1 _ _)
    refine⟨⟨(mk-(2-mk%2))/2,_,?_,by omega,Hac.out,by simp;omega,?_,hbw.trans hb1⟩,by simp[intOf];omega⟩
    ·refine congrArg (Value.int .i64) ?_
     omega
    ·have hy:(2-(mk:Int)%2)=(2-(mk%2:Nat):Int):=by omega
     rwa [hy] at hown1
   ·have hm0:mk=0:=by omega
    subst hm0;have he:acc=digR N:=by have:=heq.out;rwa [digR_zero,List.append_nil] at this
    have He:=Lib.hid he;clear he;go_wp2_with fail
    go_ret
    exact⟨_,rfl,He.out▸hown,hbw⟩
def invP (l:List Int) (k r:Nat) (acc:List Int):Prop :=
 if k<=l.length then acc++pk r (l.drop k)=pk 0 l/\(l.take k).all okRank=true else acc=pk 0 l/\l.all okRank=true
theorem invP_zero {l:List Int} {k r:Nat} {acc:List Int} (h:invP l k r acc) (hx:l[k]? =some 0):invP l (k+1) (r+1) acc:=by
 have hk:k<l.length:=(List.getElem?_eq_some_iff.1 hx).1;unfold invP at h ⊢;rw[if_pos (by omega)] at h ⊢;rw[drop_at l k 0 hx,pk,if_pos rfl] at h;exact⟨h.1,all_take_int l okRank k 0 hx h.2 rfl⟩
theorem invP_sym {l:List Int} {k r:Nat} {acc:List Int} {x:Int} (h:invP l k r acc) (hx:l[k]? =some x) (h0:x≠0) (ho:okRank x=true):invP l (k+1) 0 (acc++low r++[x+1]):=by
 have hk:k<l.length:=(List.getElem?_eq_some_iff.1 hx).1;unfold invP at h ⊢;rw[if_pos (by omega)] at h ⊢;rw[drop_at l k x hx,pk,if_neg h0] at h;exact⟨by rw[<-h.1];simp,all_take_int l okRank k x hx h.2 ho⟩
theorem invP_end {l:List Int} {r:Nat} {acc:List Int} (h:invP l l.length r acc):invP l (l.length+1) 0 (acc++low r):=by
 unfold invP at h ⊢;rw[if_pos (by omega)] at h;rw[if_neg (by omega)];rw[List.drop_length,pk,List.take_length] at h;exact h
theorem invP_len {l:List Int} {k r:Nat} {acc:List Int} (h:invP l k r acc):acc.length<=l.length:=by
 have hl:=length_pk l 0;unfold invP at h;split at h
 ·have:=congrArg List.length h.1
  rw[List.length_append] at this;omega
 ·rw[h.1];omega
set_option maxRecDepth 100000 in
set_option maxHeartbeats 3200000 in
theorem packR_any (A:Option Addr) (n c:Nat) (l:List Int) (w:World) (hn:n<=5000000) (hrd:Rd w w.heap.size 1 A n (l.map (Value.int .i64))) :
  Calls Tryz.prog 25 #[.slice A n c] w fun e w'=>∃v,e=.returned (.tuple #[v,.int .i64 (packE l)])/\Own w' w.heap.size v (packL l)/\Below w.heap.size w w':=by
 have hln:l.length=n:=by simpa using hrd.len
 have Hln:=Lib.hid hln;clear hln
 go_enter Tryz.func25, Tryz.ntmps25
 go_wp2_with fail
 go_loopw [4,5,6] (fun u rv i wr=>∃(k r:Nat) (acc:List Int),i=.int .i64 k/\k<=n+1/\rv=.int .i64 r/\r<=k/\Own wr w.heap.size u acc/\Below w.heap.size w wr/\Hid (invP l k r acc)) (fun _ _ i _=>n+1-(intOf i).toNat)
 case atStart=>exact⟨0,0,[],rfl,by omega,rfl,by omega,World.ownsRow_nil _ _ _ _,Below.refl _ _,(show invP l 0 0 [] from by unfold invP;rw[if_pos (Nat.zero_le _)];simp)⟩
 case round =>
  obtain⟨k,r,acc,rfl,hk,rfl,hr,gown,gb,ginv⟩:=hrel;have hal:=invP_len ginv.out;rw[Hln.out] at hal;have grd:=hrd.below gb;have hB:=gb.size;by_cases hlt:k<n
  ·obtain⟨ad,x,rfl,had,hx,hcell⟩:=grd.int1 hlt
   have Hx:=Lib.hid hx;clear hx;by_cases hx0:x<0
   ·go_wp2_with fail
    go_ret2
    have hno:l.all okRank=false:=all_false_int l okRank k x Hx.out (by simp[okRank];omega);unfold packE packL;rw[if_neg (by rw[hno];simp),if_neg (by rw[hno];simp)];exact⟨_,rfl,World.ownsRow_nil _ _ _ _,gb⟩
   by_cases hx1:255<x
   ·go_wp2_with fail
    go_ret2
    have hno:l.all okRank=false:=all_false_int l okRank k x Hx.out (by simp[okRank];omega);unfold packE packL;rw[if_neg (by rw[hno];simp),if_neg (by rw[hno];simp)];exact⟨_,rfl,World.ownsRow_nil _ _ _ _,gb⟩
   have hok:okRank x=true:=by simp[okRank];omega
   have Hok:=Lib.hid hok;clear hok;by_cases hx2:x=0
   ·subst hx2
    go_wp2_with fail
    go_roundw
    case rel=>exact⟨k+1,r+1,acc,by go_num,by omega,by go_num,by omega,gown,gb,invP_zero ginv.out Hx.out⟩
    case measure=>simp[intOf];omega
   ·have hxb:(x==0)=false:=by rw[beq_eq_false_iff_ne];exact hx2
    have Hinv:=Lib.hid (invP_sym ginv.out Hx.out hx2 Hok.out);have hcw:w.cell? (ad.add k)=some (.int .i64 x):=((gb.cell (p:=ad.add k) (by rw[add_block];omega)).symm).trans hcell;have hdl:=length_digits r (by omega);have hul:=World.ownsRow.lt gown;go_wp2_with fail
    refine(digitsR_any r (by omega) _).mono ?_;rintro e w1 ⟨d,rfl,hd,hb1⟩;obtain⟨A1,c1,rfl,hc1,hm1,_⟩:=hd.rd;have gown1:Own w1 w.heap.size _ acc:=gown.below hb1 (Nat.le_refl _);have gb1:Below w.heap.size w w1:=gb.trans (hb1.mono hB);have hdlt:=World.ownsRow.lt hd;have hz1:=hb1.size;have hcell1:=(hb1.cell (p:=ad.add k) (by rw[add_block];omega)).trans hcell;clear hcell;go_wp2_with fail
    obtain⟨wo,hwo⟩:∃wo:World,wo=wr:=⟨_,rfl⟩
    subst hwo;go_loopw [4,8] (fun u j w2=>∃kk:Nat,j=.int .i64 kk/\kk<=(digits r).length/\Own w2 w.heap.size u (acc++(low r).take kk)/\Below w.heap.size w w2/\Own w2 wo.heap.size (.slice A1 (digits r).length c1) (digits r) /\
      (u.ownBlock=u4.ownBlock∨ ∃g,u.ownBlock=some g/\w1.heap.size<=g)/\w1.heap.size<=w2.heap.size) (fun _ j _=>(digits r).length-(intOf j).toNat)
    case atStart=>exact⟨0,rfl,by omega,by simpa using gown1,gb1,hd,.inl rfl,Nat.le_refl _⟩
    case round =>
     obtain⟨kk,rfl,hkk,qown,qb,qd,qu,qz⟩:=hrel;have hB2:=qb.size;have quD:Value.ownBlock (.slice A1 (digits r).length c1)=none∨Value.ownBlock (.slice A1 (digits r).length c1)≠Value.ownBlock u4:=by
      rcases hx:Value.ownBlock (.slice A1 (digits r).length c1) with _|gd
      ·exact .inl rfl
      ·right
       have h1:=hdlt gd hx;rcases qu with e|⟨g,e,hg⟩
       ·rw[e];intro h;have:=hul gd h.symm;omega
       ·rw[e];intro h;simp at h;omega
     obtain⟨_,_,hAe,_,_,qrd⟩:=qd.rd;simp only[Value.slice.injEq,true_and] at hAe;obtain⟨rfl,rfl⟩:=hAe;by_cases hlt2:kk<(digits r).length
     ·obtain⟨a2,y,rfl,_,hy,hcy⟩:=qrd.int1 hlt2
      have hy12:=digits_12 r kk y hy;have Hy:=Lib.hid hy;clear hy;go_wp2_with (at_builtin;(refine append1 qown (by simp;omega) hB2 ?_);intro A3 n3 c3 w3 hn3 hown3 hb3 hg3 hat3)
      go_roundw
      case rel =>
       refine⟨kk+1,by go_num,by omega,?_,qb.trans hb3,World.ownsRow.kept qd hg3 quD,?_,Nat.le_trans qz hb3.size⟩
       ·rw[low_at r kk y Hy.out,<-List.append_assoc];exact hown3
       ·rcases hat3 with e|⟨g,e,hg⟩
        ·rw[e];exact qu
        ·exact .inr ⟨g,e,by omega⟩
      case measure=>simp[intOf];omega
     ·rw[List.take_of_length_le (by rw[low_is,List.length_map];omega)] at qown
      have hll:=length_low r;clear qu quD qd qrd;have hcz:=(qb.cell (p:=ad.add k) (by rw[add_block];omega)).trans hcw;go_wp2_with (at_builtin;(refine append1 qown (by simp;omega) hB2 ?_);intro A4 n4 c4 w4 hn4 hown4 hb4 hg4 hat4)
      go_roundw
      case rel=>exact⟨k+1,0,_,by go_num,by omega,by go_num,by omega,hown4,qb.trans hb4,Hinv.out⟩
      case measure=>simp[intOf];omega
  ·by_cases hke:k=n
   ·subst hke
    have hin:=ginv.out;rw[<-Hln.out] at hin;have hin2:=invP_end hin;rw[Hln.out] at hin2;have Hinv:=Lib.hid hin2;clear hin hin2;have hdl:=length_digits r (by omega);have hul:=World.ownsRow.lt gown;go_wp2_with fail
    refine(digitsR_any r (by omega) _).mono ?_;rintro e w1 ⟨d,rfl,hd,hb1⟩;obtain⟨A1,c1,rfl,hc1,hm1,_⟩:=hd.rd;have gown1:Own w1 w.heap.size _ acc:=gown.below hb1 (Nat.le_refl _);have gb1:Below w.heap.size w w1:=gb.trans (hb1.mono hB);have hdlt:=World.ownsRow.lt hd;have hz1:=hb1.size
    skip
    go_wp2_with fail
    obtain⟨wo,hwo⟩:∃wo:World,wo=wr:=⟨_,rfl⟩
    subst hwo;go_loopw [4,8] (fun u j w2=>∃kk:Nat,j=.int .i64 kk/\kk<=(digits r).length/\Own w2 w.heap.size u (acc++(low r).take kk)/\Below w.heap.size w w2/\Own w2 wo.heap.size (.slice A1 (digits r).length c1) (digits r) /\
      (u.ownBlock=u4.ownBlock∨ ∃g,u.ownBlock=some g/\w1.heap.size<=g)/\w1.heap.size<=w2.heap.size) (fun _ j _=>(digits r).length-(intOf j).toNat)
    case atStart=>exact⟨0,rfl,by omega,by simpa using gown1,gb1,hd,.inl rfl,Nat.le_refl _⟩
    case round =>
     obtain⟨kk,rfl,hkk,qown,qb,qd,qu,qz⟩:=hrel;have hB2:=qb.size;have quD:Value.ownBlock (.slice A1 (digits r).length c1)=none∨Value.ownBlock (.slice A1 (digits r).length c1)≠Value.ownBlock u4:=by
      rcases hx:Value.ownBlock (.slice A1 (digits r).length c1) with _|gd
      ·exact .inl rfl
      ·right
       have h1:=hdlt gd hx;rcases qu with e|⟨g,e,hg⟩
       ·rw[e];intro h;have:=hul gd h.symm;omega
       ·rw[e];intro h;simp at h;omega
     obtain⟨_,_,hAe,_,_,qrd⟩:=qd.rd;simp only[Value.slice.injEq,true_and] at hAe;obtain⟨rfl,rfl⟩:=hAe;by_cases hlt2:kk<(digits r).length
     ·obtain⟨a2,y,rfl,_,hy,hcy⟩:=qrd.int1 hlt2
      have hy12:=digits_12 r kk y hy;have Hy:=Lib.hid hy;clear hy;go_wp2_with (at_builtin;(refine append1 qown (by simp;omega) hB2 ?_);intro A3 n3 c3 w3 hn3 hown3 hb3 hg3 hat3)
      go_roundw
      case rel =>
       refine⟨kk+1,by go_num,by omega,?_,qb.trans hb3,World.ownsRow.kept qd hg3 quD,?_,Nat.le_trans qz hb3.size⟩
       ·rw[low_at r kk y Hy.out,<-List.append_assoc];exact hown3
       ·rcases hat3 with e|⟨g,e,hg⟩
        ·rw[e];exact qu
        ·exact .inr ⟨g,e,by omega⟩
      case measure=>simp[intOf];omega
     ·rw[List.take_of_length_le (by rw[low_is,List.length_map];omega)] at qown
      have hll:=length_low r;clear qu quD qd qrd;go_wp2_with fail
      go_roundw
      case rel=>exact⟨k+1,0,_,by go_num,by omega,by go_num,by omega,qown,qb,Hinv.out⟩
      case measure=>simp[intOf]
   ·have hinv:=ginv.out
    unfold invP at hinv;rw[if_neg (by have:=Hln.out;omega)] at hinv;have Hi:=Lib.hid hinv;clear hinv;go_wp2_with fail
    go_ret2
    unfold packE packL;rw[if_pos Hi.out.2,if_pos Hi.out.2,<-Hi.out.1];exact⟨_,rfl,gown,gb⟩
end Zr
end Go.Proofs.YtjligbmickfbdaaGreat
namespace Go.Proofs.YtjligbmickfbdaaGreat
namespace Rf
open Go.RowKit Vi
theorem conv1 (w:World) (c:UInt8):(convert 65 9 (.slice (some ⟨w.heap.size,0,none⟩) 1 1)).run Tryz.prog (w.alloc (.cells #[.int .u8 (c.toNat:Int)] 5))=.ok (.string ⟨#[c]⟩) (w.alloc (.cells #[.int .u8 (c.toNat:Int)] 5)):=by
 have h:Rd (w.alloc (.cells #[.int .u8 (c.toNat:Int)] 5)) (w.alloc (.cells #[.int .u8 (c.toNat:Int)] 5)).heap.size 1 (some ⟨w.heap.size,0,none⟩) 1 (bv [c]) :=
  ⟨rfl,fun _=>⟨_,rfl,by simp,fun j u hu=>cell_one_new w _ _ j u hu⟩⟩
 exact run_str (c:=1) h
set_option maxHeartbeats 1600000 in
set_option maxRecDepth 100000 in
theorem refput_any:∀(n N:Nat) (w:World),N<n->N<9223372036854775808->Calls Tryz.prog 19 #[.int .i64 (N:Int)] w fun e w'=>e=.returned (.tuple #[.string (vtxt N),.int .i64 0])/\Below w.heap.size w w'
 |0,N,_,h,_=>absurd h (by omega)
 |n+1,N,w,h,hN=>by
  have h0: ¬ (N:Int)<0:=by omega
  by_cases hs:N<128
  ·have h1:(N:Int)<128:=by omega
   have e:vtxt N=⟨#[UInt8.ofNat N]⟩:=by unfold vtxt;rw[putV_small hs]
   rw[e];have hc:=conv1 w (UInt8.ofNat N);rw[<-low7 N hs] at hc
   go_enter Tryz.func19, Tryz.ntmps19
   go_wp2_with fail
   go_ret2
   exact⟨rfl,ext_alloc w _⟩
  ·have h1: ¬ (N:Int)<128:=by omega
   have IH:=Lib.hid (fun w=>refput_any n (N/128) w (by omega) (by omega));have hcc:∀wv:World,(convert 65 9 (.slice (some ⟨wv.heap.size,0,none⟩) 1 1)).run Tryz.prog (wv.alloc (.cells #[.int .u8 (128+(N:Int)%128)] 5))=.ok (.string ⟨#[UInt8.ofNat (N%128+128)]⟩) (wv.alloc (.cells #[.int .u8 (128+(N:Int)%128)] 5)):=fun wv=>by
    have hh:=conv1 wv (UInt8.ofNat (N%128+128));rw[show((UInt8.ofNat (N%128+128)).toNat:Int)=128+(N:Int)%128 by rw[toNat_ofNat _ (by omega)];omega] at hh;exact hh
   have hcc:=Lib.hid hcc;have hl:(vtxt (N/128)).size<=9:=length_putV_le _ 8 (by omega);have hz:(⟨#[UInt8.ofNat (N%128+128)]⟩:ByteArray).size+(vtxt (N/128)).size<=9223372036854775807:=by
    have:(⟨#[UInt8.ofNat (N%128+128)]⟩:ByteArray).size=1:=rfl;omega
   have he:(⟨#[UInt8.ofNat (N%128)+128]⟩:ByteArray)++vtxt (N/128)=vtxt N:=by
    apply ByteArray.ext;rw[ByteArray.data_append];simp[vtxt,putV_step hs]
   generalize hV:vtxt (N/128)=V at *
   generalize hM:vtxt N=M at *
   clear hV hM
   go_enter Tryz.func19, Tryz.ntmps19
   go_wp2_with (go_at_call 19;refine(IH.out _).mono ?_;rintro e1 w1 ⟨rfl,hb1⟩;have hc:=hcc.out w1)
   go_ret2
   exact⟨rfl,ext_trans hb1 (ext_alloc w1 _)⟩
end Rf
end Go.Proofs.YtjligbmickfbdaaGreat
