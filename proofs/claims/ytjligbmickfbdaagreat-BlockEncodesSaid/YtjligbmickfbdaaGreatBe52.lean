/- The reference's suffixes: a text's order, putting in; plain. varveref12.Array. varveref13.Forward. varveref06.Ranks. The reference's zrun: Digits, Pack. varveref14: Symbols, Pack. block: what its functions compute: plain lists, no program. block.Encode. -/
import Derived.Test.YtjligbmickfbdaaGreatBe08
import Derived.Test.YtjligbmickfbdaaGreatBe49
import Derived.Test.YtjligbmickfbdaaGreatBe48
import Derived.Test.YtjligbmickfbdaaGreatBe13
import Derived.Test.YtjligbmickfbdaaGreatBe20
import Derived.Test.YtjligbmickfbdaaGreatBe18
import Derived.Test.YtjligbmickfbdaaGreatBe51
import Derived.Test.YtjligbmickfbdaaGreatBe40
import Derived.Test.YtjligbmickfbdaaGreatBe47
namespace Go.Proofs.YtjligbmickfbdaaGreat
namespace Rf
open Sx
theorem bl_drop (s:List UInt8):∀(L p q:Nat),p<=s.length->q<=s.length->s.length<p+L->s.length<q+L->(Op.bytesLess (s.drop p) (s.drop q)=true↔less s L p q)
 |0,p,q,hp,hq,h,_=>by omega
 |L+1,p,q,hp,hq,h,h'=>by
  rcases Nat.lt_or_ge q s.length with h1|h1
  ·rw[List.drop_eq_getElem_cons h1]
   rcases Nat.lt_or_ge p s.length with h2|h2
   ·rw[List.drop_eq_getElem_cons h2]
    show(decide (s[p]<s[q])||(s[p]==s[q]&&Op.bytesLess (s.drop (p+1)) (s.drop (q+1))))=true↔_
    have ih:=bl_drop s L (p+1) (q+1) (by omega) (by omega) (by omega) (by omega);simp only[Bool.or_eq_true,Bool.and_eq_true,decide_eq_true_eq,beq_iff_eq,less,tl_lt h1,tl_lt h2,ih];have e1:s[p]<s[q]↔s[p].toNat+1<s[q].toNat+1:=by rw[UInt8.lt_iff_toNat_lt];omega
    have e2:s[p]=s[q]↔s[p].toNat+1=s[q].toNat+1:=by rw[<-UInt8.toNat_inj];omega
    rw[e1,e2]
   ·rw[List.drop_eq_nil_of_le h2]
    have:less s (L+1) p q:=.inl (by rw[tl_ge h2,tl_lt h1];omega);exact⟨fun _=>this,fun _=>rfl⟩
  ·rw[List.drop_eq_nil_of_le h1]
   have hn: ¬ less s (L+1) p q:=by
    rintro (h|h)
    ·rw[tl_ge h1] at h;omega
    ·have hp2:s.length<=p:=by
      rcases Nat.lt_or_ge p s.length with h2|h2
      ·have:=h.1;rw[tl_ge h1,tl_lt h2] at this;omega
      ·exact h2
     obtain rfl:p=q:=by omega
     exact less_irrefl h.2
   refine⟨fun h=>?_,fun h=>absurd h hn⟩;cases hd:s.drop p<;>rw[hd] at h<;>cases h
theorem cmp_drop {s:ByteArray} {p q:Nat} {b:Bool} (hp:p<=s.size) (hq:q<=s.size) (h:less s.data.toList (s.data.toList.length+1) p q↔b=true):Op.bytesLess (s.extract p s.size).toList (s.extract q s.size).toList=b:=by
 have e:∀a,(s.extract a s.size).toList=s.data.toList.drop a:=fun a=>by
  rw[ByteArray.toList_eq,ByteArray.data_extract,Array.toList_extract,List.extract_eq_take_drop];exact List.take_of_length_le (by rw[List.length_drop];exact Nat.le_refl _)
 have hl:s.data.toList.length=s.size:=rfl;rw[e,e,Bool.eq_iff_iff,bl_drop s.data.toList (s.data.toList.length+1) p q (by omega) (by omega) (by omega) (by omega)];exact h
structure SrtTo (s:List UInt8) (p:Nat) (A:List Nat):Prop where
 perm:A.Perm (List.range p)
 srt:A.Pairwise fun p q=>less s (s.length+1) p q
theorem srtTo_nil (s:List UInt8):SrtTo s 0 []:=⟨List.Perm.refl _,List.Pairwise.nil⟩
theorem SrtTo.len {s:List UInt8} {p:Nat} {A:List Nat} (h:SrtTo s p A):A.length=p:=by rw[h.perm.length_eq,List.length_range]
theorem SrtTo.lt {s:List UInt8} {p:Nat} {A:List Nat} (h:SrtTo s p A) {x:Nat} (hx:x∈A):x<p:=List.mem_range.1 (h.perm.mem_iff.1 hx)
theorem SrtTo.put {s:List UInt8} {p k:Nat} {A:List Nat} (h:SrtTo s p A) (hp:p<=s.length) (hk:k<=A.length) (h1:∀x∈A.take k,less s (s.length+1) x p) (h2:∀x∈A.drop k,¬ less s (s.length+1) x p):SrtTo s (p+1) (A.take k++[p]++A.drop k):=by
 have h3:∀x∈A.drop k,less s (s.length+1) p x:=by
  intro x hx;have hlt:=h.lt (List.mem_of_mem_drop hx);rcases tri (s:=s) (s.length+1) p x with t|t|t
  ·exact t
  ·have:=same_end (by omega) (by omega) t (.inl (by omega));omega
  ·exact absurd t (h2 x hx)
 constructor
 ·rw[List.range_succ]
  refine List.Perm.trans (l₂:=A++[p]) ?_ (h.perm.append_right [p])
  conv=>rhs;rw[<-List.take_append_drop k A]
  rw[List.append_assoc,List.append_assoc];exact List.Perm.append_left _ List.perm_append_comm
 ·have hh:=h.srt
  rw[<-List.take_append_drop k A,List.pairwise_append] at hh;rw[List.append_assoc,List.pairwise_append];refine⟨hh.1,?_,?_⟩
  ·rw[List.singleton_append,List.pairwise_cons]
   exact⟨h3,hh.2.1⟩
  ·intro a ha b hb
   rw[List.singleton_append,List.mem_cons] at hb;rcases hb with rfl|hb
   ·exact h1 a ha
   ·exact hh.2.2 a ha b hb
theorem SrtTo.up {s:List UInt8} {p m:Nat} {A:List Nat} (h:SrtTo s p A) (hm:m<A.length) (hl:less s (s.length+1) A[m] p):∀x∈A.take (m+1),less s (s.length+1) x p:=by
 intro x hx;rw[List.take_add_one,List.getElem?_eq_getElem hm] at hx;rcases List.mem_append.1 hx with hx|hx
 ·have hh:=h.srt
  rw[<-List.take_append_drop m A,List.pairwise_append] at hh;exact less_trans (hh.2.2 x hx A[m] (by rw[List.drop_eq_getElem_cons hm];exact List.mem_cons_self)) hl
 ·simp at hx;subst hx;exact hl
theorem SrtTo.down {s:List UInt8} {p m:Nat} {A:List Nat} (h:SrtTo s p A) (hm:m<A.length) (hl: ¬ less s (s.length+1) A[m] p):∀x∈A.drop m,¬ less s (s.length+1) x p:=by
 intro x hx hc;rw[List.drop_eq_getElem_cons hm] at hx;rcases List.mem_cons.1 hx with rfl|hx
 ·exact hl hc
 ·have hh:=h.srt
  rw[<-List.take_append_drop (m+1) A,List.pairwise_append] at hh;exact hl (less_trans (hh.2.2 A[m] (by rw[List.take_add_one,List.getElem?_eq_getElem hm];exact List.mem_append_right _ (by simp)) x hx) hc)
theorem SrtTo.all {s:List UInt8} {A:List Nat} (h:SrtTo s (s.length+1) A):Sorted s A:=⟨h.perm,h.srt⟩
theorem sorted_uniq {s:List UInt8} {A B:List Nat} (ha:Sorted s A) (hb:Sorted s B):A=B :=
 List.Perm.eq_of_pairwise (le:=fun p q=>less s (s.length+1) p q) (fun a b _ _ h1 h2=>absurd (less_trans h1 h2) less_irrefl) ha.srt hb.srt (ha.perm.trans hb.perm.symm)
end Rf
end Go.Proofs.YtjligbmickfbdaaGreat
namespace Go.Proofs.YtjligbmickfbdaaGreat
namespace Rf
open Go.RowKit Sx
def cN (l:List Nat):List Value:=l.map fun(n:Nat)=>Value.int .i64 (n:Int)
theorem cN_one (l:List Nat):∀u∈cN l,u.oneCell'=true:=by
 intro u hu;obtain⟨x,_,rfl⟩:=List.mem_map.1 hu;rfl
theorem cN_mk (x:Nat):cN [x]=[.int .i64 (x:Int)]:=rfl
theorem cN_app (a b:List Nat):cN (a++b)=cN a++cN b:=List.map_append ..
theorem cN_take (l:List Nat) (k:Nat):(cN l).take (k*1)=cN (l.take k):=by rw[Nat.mul_one];exact(List.map_take ..).symm
theorem cN_drop (l:List Nat) (k:Nat):(cN l).drop (k*1)=cN (l.drop k):=by rw[Nat.mul_one];exact(List.map_drop ..).symm
theorem cN_len (l:List Nat):(cN l).length=l.length:=List.length_map ..
theorem argV_cell {w w':World} {ad:Addr} {n c k x:Nat} {l:List Nat} (h:ArgV w 1 (some ad) n c (cN l)) (hb:Below w.heap.size w w') (hk:l[k]? =some x):w'.cell? (ad.add k)=some (.int .i64 (x:Int)):=by
 have hn:0<n:=by
  have:=(List.getElem?_eq_some_iff.1 hk).1;have:=h.rd.len;rw[cN_len] at this;omega
 obtain⟨ad',e,_,hc⟩:=(h.rd.ext hb).cells hn;cases e
 exact hc k _ (by unfold cN;rw[List.getElem?_map,hk];rfl)
set_option maxHeartbeats 6400000 in
set_option maxRecDepth 100000 in
theorem refarray_any (s:ByteArray) (w:World) (hs:s.size<=20000) :
  Calls Tryz.prog 55 #[.string s] w fun e w'=>∃v A,e=.returned (.tuple #[v,.int .i64 0])/\Sorted s.data.toList A/\w'.ownsRow w.heap.size 3 1 v A.length (cN A)/\Below w.heap.size w w':=by
 have mixed:Tryz.prog.follows .mixedOrders=true:=by kernel_rfl
 have hsl:s.data.toList.length=s.size:=rfl;have HSL:=Lib.hid hsl;have h0: ¬ (s.size:Int)>20000:=by omega
 clear hsl
 go_enter Tryz.func55, Tryz.ntmps55
 go_wp2_with fail
 go_loopg [4,5] (s.size+1) (fun kx s4 s5 wr=>∃(p:Nat) (A:List Nat),s5=.int .i64 (p:Int)/\p<=s.size+1/\s.size+1-p<=kx/\Hid (SrtTo s.data.toList p A)/\Aside (wr.ownsRow w.heap.size 3 1 s4 p (cN A)/\Below w.heap.size w wr))
 case atStart=>exact⟨0,[],by go_num,by omega,by omega,srtTo_nil _,World.ownsRow_nil _ _ _ _,Below.refl _ _⟩
 case round =>
  obtain⟨p,A,rfl,hp,hpk,hA,H⟩:=hrel;obtain⟨Ao,co,rfl,harg⟩:=argV_of_own H.out.1;have hnc:=harg.nc;have hcm:co<=9223372036854775807:=by have:=harg.cm;unfold maxLen at this;omega
  have HAR:=Lib.hid harg;have HB:=Lib.hid H.out.2;have HO1:Aside (wr.ownsRow w.heap.size 3 1 (.slice Ao p co) p (cN A)):=H.out.1;have hAl:=hA.out.len;clear harg H;by_cases hin:p<=s.size
  ·go_wp2_with fail
   generalize wr=wo at *
   go_loopg [6,7] p (fun kx2 s6 s7 wi=>∃(lo hi:Nat),s6=.int .i64 (lo:Int)/\s7=.int .i64 (hi:Int)/\lo<=hi/\hi<=p/\hi-lo<=kx2/\Aside (Below wo.heap.size wo wi/\(∀x∈A.take lo,less s.data.toList (s.data.toList.length+1) x p)/\ ∀x∈A.drop hi,¬ less s.data.toList (s.data.toList.length+1) x p))
   case atStart=>exact⟨0,p,by go_num,by go_num,by omega,by omega,by omega,Below.refl _ _,by intro x hx;simp at hx,by rw[<-hAl,List.drop_length];intro x hx;simp at hx⟩
   case round =>
    obtain⟨lo,hi,rfl,rfl,hlh,hhp,hk2,HI⟩:=hrel;by_cases hlt:lo<hi
    ·obtain⟨m,hm⟩:∃m,m=(lo+hi)/2:=⟨_,rfl⟩
     have hm1:lo<=m:=by omega
     have hm2:m<hi:=by omega
     have hmI:((lo:Int)+(hi:Int))/2=(m:Int):=by omega
     have hml:m<A.length:=by omega
     obtain⟨ad,rfl⟩:=HAR.out.some (by omega);have hcell:=argV_cell (x:=A[m]) HAR.out HI.out.1 (List.getElem?_eq_getElem hml);have hql:=hA.out.lt (List.getElem_mem hml);by_cases hless:less s.data.toList (s.data.toList.length+1) A[m] p
     ·have hcmp:=cmp_drop (s:=s) (p:=A[m]) (q:=p) (b:=true) (by omega) hin ⟨fun _=>rfl,fun _=>hless⟩
      have hup:=Lib.hid (hA.out.up hml hless);generalize A[m]=q at *
      have g1:(0:Int)<=(q:Int):=by omega
      have g2:(q:Int)<=(s.size:Int):=by omega
      have g3:(0:Int)<=(p:Int):=by omega
      have g4:(p:Int)<=(s.size:Int):=by omega
      have g5:(m:Int)<(p:Int):=by omega
      have g6:(0:Int)<=(m:Int):=by omega
      clear hless hm;go_wp2_with fail
      go_quiet (fail)
      go_wp2_with fail
      go_roundg (hi-(m+1))
      case measure=>omega
      case rel=>exact⟨m+1,hi,by go_num,by go_num,by omega,by omega,by omega,below_drewN HI.out.1 _,hup.out,HI.out.2.2⟩
     ·have hcmp:=cmp_drop (s:=s) (p:=A[m]) (q:=p) (b:=false) (by omega) hin ⟨fun h=>absurd h hless,fun h=>by cases h⟩
      have hdn:=Lib.hid (hA.out.down hml hless);generalize A[m]=q at *
      have g1:(0:Int)<=(q:Int):=by omega
      have g2:(q:Int)<=(s.size:Int):=by omega
      have g3:(0:Int)<=(p:Int):=by omega
      have g4:(p:Int)<=(s.size:Int):=by omega
      have g5:(m:Int)<(p:Int):=by omega
      have g6:(0:Int)<=(m:Int):=by omega
      clear hless hm;go_wp2_with fail
      go_quiet (fail)
      go_wp2_with fail
      go_roundg (m-lo)
      case measure=>omega
      case rel=>exact⟨lo,m,by go_num,by go_num,by omega,by omega,by omega,below_drewN HI.out.1 _,HI.out.2.1,hdn.out⟩
    ·obtain rfl:lo=hi:=by omega
     have HPUT:=Lib.hid (hA.out.put (k:=lo) (by rw[HSL.out];exact hin) (by omega) HI.out.2.1 HI.out.2.2);rcases Nat.lt_or_ge lo p with hlp|hlp
     ·obtain⟨ad,rfl⟩:=HAR.out.some (by omega)
      go_wp2_with fail
      generalize wr=w3 at *
      have HB3:=Lib.hid (HB.out.trans (HI.out.1.mono HB.out.size));have HA3:=Lib.hid (HAR.out.ext HI.out.1);have hdr:Below w3.heap.size w3 w3.drew:=⟨rfl,rfl,rfl,Nat.le_refl _,fun _ _=>rfl⟩
      have HSd:Aside (Below w3.heap.size w3 w3.drew):=hdr;have HSa:Aside (Below w3.heap.size w3 (w3.drew.alloc (.cells #[] 3))):=hdr.trans (ext_alloc w3.drew (.cells #[] 3));have HSx:Aside (Below w3.heap.size w3 (w3.drew.alloc (.cells #[.int .i64 (p:Int)] 3))):=hdr.trans (ext_alloc w3.drew (.cells #[.int .i64 (p:Int)] 3));have HSax:Aside (Below w3.heap.size w3 ((w3.drew.alloc (.cells #[] 3)).alloc (.cells #[.int .i64 (p:Int)] 3))):=HSa.out.trans ((ext_alloc (w3.drew.alloc (.cells #[] 3)) (.cells #[.int .i64 (p:Int)] 3)).mono HSa.out.size);have HSxa:Aside (Below w3.heap.size w3 ((w3.drew.alloc (.cells #[.int .i64 (p:Int)] 3)).alloc (.cells #[] 3))):=HSx.out.trans ((ext_alloc (w3.drew.alloc (.cells #[.int .i64 (p:Int)] 3)) (.cells #[] 3)).mono HSx.out.size);have HOa:Aside ((w3.drew.alloc (.cells #[] 3)).ownsRow w3.heap.size 3 1 (.slice (some ⟨w3.heap.size,0,none⟩) 0 0) 0 []):=ownV_empty 3 w3.drew;have HOax:Aside (((w3.drew.alloc (.cells #[] 3)).alloc (.cells #[.int .i64 (p:Int)] 3)).ownsRow w3.heap.size 3 1 (.slice (some ⟨w3.heap.size,0,none⟩) 0 0) 0 []):=own_below HOa.out (ext_alloc (w3.drew.alloc (.cells #[] 3)) (.cells #[.int .i64 (p:Int)] 3)) (Nat.le_refl _);have HOxa:Aside (((w3.drew.alloc (.cells #[.int .i64 (p:Int)] 3)).alloc (.cells #[] 3)).ownsRow w3.heap.size 3 1 (.slice (some ⟨w3.heap.size+1,0,none⟩) 0 0) 0 []):=ownV_empty2 3 3 w3 w3.drew #[.int .i64 (p:Int)] rfl;have hkc:lo<=co:=by omega
      have HTK:=Lib.hid (fun(wx:World) (hb:Below w3.heap.size w3 wx)=>show Rd wx wx.heap.size 1 (some ad) lo (cN (A.take lo)) from by have h:=HA3.out.take (k:=lo) hb hhp;rwa [cN_take] at h);have hkn: ¬ co=lo:=by omega
      have HDR:=Lib.hid (fun(wx:World) (hb:Below w3.heap.size w3 wx)=>show Rd wx wx.heap.size 1 (some (ad.add lo)) (p-lo) (cN (A.drop lo)) from by have h:=HA3.out.drop (k:=lo) hb hlp;rwa [cN_drop,Nat.mul_one] at h);clear hdr HI;go_region_held3 (fun wx=>Below w3.heap.size w3 wx) (first|exact HSd.out|exact HSa.out|exact HSx.out|exact HSax.out|exact HSxa.out|assumption|exact hS4.trans ((ext_alloc w4 _).mono hS4.size)) (first
       |(refine step_appV intEl (.tmp 40) (.tmp 43) rfl rfl HOa.out (HTK.out _ HSa.out) HA3.out.no (cN_one _) (by omega) (by omega) HSa.out.size (by rfl) (by rfl) ?_;intro v4 w4 hown4 hb4 hg4;have hS4:=HSa.out.trans hb4)
       |(refine step_appV intEl (.tmp 40) (.tmp 43) rfl rfl HOax.out (HTK.out _ HSax.out) HA3.out.no (cN_one _) (by omega) (by omega) HSax.out.size (by rfl) (by rfl) ?_;intro v4 w4 hown4 hb4 hg4;have hS4:=HSax.out.trans hb4;have hrx:=rdV_far (sz:=1) (b:=w3.heap.size+1) (X:=[.int .i64 (p:Int)]) (t:=3) (w:=w3.drew.alloc (.cells #[] 3)) (g:=w3.heap.size) rfl (by simp) (show((w3.drew.alloc (.cells #[] 3)).alloc (.cells #[.int .i64 (p:Int)] 3)).grownBy w4 (some w3.heap.size) from hg4) (by simp))
       |(refine step_appV intEl (.tmp 40) (.tmp 43) rfl rfl HOxa.out (HTK.out _ HSxa.out) HA3.out.no (cN_one _) (by omega) (by omega) HSxa.out.size (by rfl) (by rfl) ?_;intro v4 w4 hown4 hb4 hg4;have hS4:=HSxa.out.trans hb4;have hrx:=rdV_far (sz:=1) (b:=w3.heap.size) (X:=[.int .i64 (p:Int)]) (t:=3) (w:=w3.drew) (g:=w3.heap.size+1) rfl rfl ((World.grownBy_alloc (w3.drew.alloc (.cells #[.int .i64 (p:Int)] 3)) (.cells #[] 3) (some (w3.heap.size+1))).trans (show((w3.drew.alloc (.cells #[.int .i64 (p:Int)] 3)).alloc (.cells #[] 3)).grownBy w4 (some (w3.heap.size+1)) from hg4)) (by simp))
       |(refine step_appV (c:=1) intEl (.tmp 44) (.tmp 46) rfl rfl (own_below hown4 (ext_alloc w4 (.cells #[.int .i64 (p:Int)] 3)) (Nat.le_refl _)) (rdV_new (sz:=1) 3 w4 [.int .i64 (p:Int)] rfl) (fun h=>by cases h) (fun u hu=>by simp at hu;subst hu;rfl) (by omega) (by omega) (Nat.le_trans hS4.size (ext_alloc w4 (.cells #[.int .i64 (p:Int)] 3)).size) (by rfl) (by rfl) ?_;intro v5 w5 hown5 hb5 hg5;have hS5:=hS4.trans (((ext_alloc w4 (.cells #[.int .i64 (p:Int)] 3)).mono hS4.size).trans hb5))
       |(refine step_appV (c:=1) intEl (.tmp 44) (.tmp 46) rfl rfl hown4 hrx (fun h=>by cases h) (fun u hu=>by simp at hu;subst hu;rfl) (by omega) (by omega) hS4.size (by rfl) (by rfl) ?_;intro v5 w5 hown5 hb5 hg5;have hS5:=hS4.trans hb5)
       |(refine step_appV (c:=co-lo) intEl (.tmp 47) (.tmp 50) rfl rfl hown5 (HDR.out _ hS5) (fun h=>by cases h) (cN_one _) (by omega) (by omega) hS5.size (by rfl) (by rfl) ?_;intro v6 w6 hown6 hb6 hg6;have hS6:=hS5.trans hb6))
      all_goals (
       have HX6:Aside (w6.ownsRow w.heap.size 3 1 v6 (p+1) (cN (A.take lo++[p]++A.drop lo))/\Below w.heap.size w w6):=by
        refine⟨?_,HB3.out.trans (hS6.mono HB3.out.size)⟩;rw[cN_app,cN_app,cN_mk];have hh:=own_lower hown6 HB3.out.size;rw[List.nil_append] at hh;have e:0+lo+1+(p-lo)=p+1:=by omega
        rw[e] at hh;exact hh
       clear hown6 hown5 hown4 hS6 hS5 hS4;go_wp2_with fail
       go_roundg (s.size-p)
       case measure=>omega
       case rel=>exact⟨p+1,A.take lo++[p]++A.drop lo,by go_num,by omega,by omega,HPUT.out,HX6.out⟩)
     ·obtain rfl:p=lo:=by omega
      go_wp2_with fail
      generalize wr=w3 at *
      have HB3:=Lib.hid (HB.out.trans (HI.out.1.mono HB.out.size));have HA3:=Lib.hid (HAR.out.ext HI.out.1);have hdr:Below w3.heap.size w3 w3.drew:=⟨rfl,rfl,rfl,Nat.le_refl _,fun _ _=>rfl⟩
      have HSd:Aside (Below w3.heap.size w3 w3.drew):=hdr;have HSa:Aside (Below w3.heap.size w3 (w3.drew.alloc (.cells #[] 3))):=hdr.trans (ext_alloc w3.drew (.cells #[] 3));have HSx:Aside (Below w3.heap.size w3 (w3.drew.alloc (.cells #[.int .i64 (p:Int)] 3))):=hdr.trans (ext_alloc w3.drew (.cells #[.int .i64 (p:Int)] 3));have HSax:Aside (Below w3.heap.size w3 ((w3.drew.alloc (.cells #[] 3)).alloc (.cells #[.int .i64 (p:Int)] 3))):=HSa.out.trans ((ext_alloc (w3.drew.alloc (.cells #[] 3)) (.cells #[.int .i64 (p:Int)] 3)).mono HSa.out.size);have HSxa:Aside (Below w3.heap.size w3 ((w3.drew.alloc (.cells #[.int .i64 (p:Int)] 3)).alloc (.cells #[] 3))):=HSx.out.trans ((ext_alloc (w3.drew.alloc (.cells #[.int .i64 (p:Int)] 3)) (.cells #[] 3)).mono HSx.out.size);have HOa:Aside ((w3.drew.alloc (.cells #[] 3)).ownsRow w3.heap.size 3 1 (.slice (some ⟨w3.heap.size,0,none⟩) 0 0) 0 []):=ownV_empty 3 w3.drew;have HOax:Aside (((w3.drew.alloc (.cells #[] 3)).alloc (.cells #[.int .i64 (p:Int)] 3)).ownsRow w3.heap.size 3 1 (.slice (some ⟨w3.heap.size,0,none⟩) 0 0) 0 []):=own_below HOa.out (ext_alloc (w3.drew.alloc (.cells #[] 3)) (.cells #[.int .i64 (p:Int)] 3)) (Nat.le_refl _);have HOxa:Aside (((w3.drew.alloc (.cells #[.int .i64 (p:Int)] 3)).alloc (.cells #[] 3)).ownsRow w3.heap.size 3 1 (.slice (some ⟨w3.heap.size+1,0,none⟩) 0 0) 0 []):=ownV_empty2 3 3 w3 w3.drew #[.int .i64 (p:Int)] rfl;have hkc:p<=co:=by omega
      have HTK:=Lib.hid (fun(wx:World) (hb:Below w3.heap.size w3 wx)=>show Rd wx wx.heap.size 1 Ao p (cN (A.take p)) from by have h:=HA3.out.take (k:=p) hb hhp;rwa [cN_take] at h);have HDR:=Lib.hid (fun(wx:World) (hb:Below w3.heap.size w3 wx)=>show Rd wx wx.heap.size 1 (if co=p then Ao else Ao.map (·.add p)) 0 (cN (A.drop p)) from by have h:=HA3.out.drop0 hb;rwa [cN_drop,Nat.mul_one] at h);clear hdr HI;go_region_held3 (fun wx=>Below w3.heap.size w3 wx) (first|exact HSd.out|exact HSa.out|exact HSx.out|exact HSax.out|exact HSxa.out|assumption|exact hS4.trans ((ext_alloc w4 _).mono hS4.size)) (first
       |(refine step_appV intEl (.tmp 40) (.tmp 43) rfl rfl HOa.out (HTK.out _ HSa.out) HA3.out.no (cN_one _) (by omega) (by omega) HSa.out.size (by rfl) (by rfl) ?_;intro v4 w4 hown4 hb4 hg4;have hS4:=HSa.out.trans hb4)
       |(refine step_appV intEl (.tmp 40) (.tmp 43) rfl rfl HOax.out (HTK.out _ HSax.out) HA3.out.no (cN_one _) (by omega) (by omega) HSax.out.size (by rfl) (by rfl) ?_;intro v4 w4 hown4 hb4 hg4;have hS4:=HSax.out.trans hb4;have hrx:=rdV_far (sz:=1) (b:=w3.heap.size+1) (X:=[.int .i64 (p:Int)]) (t:=3) (w:=w3.drew.alloc (.cells #[] 3)) (g:=w3.heap.size) rfl (by simp) (show((w3.drew.alloc (.cells #[] 3)).alloc (.cells #[.int .i64 (p:Int)] 3)).grownBy w4 (some w3.heap.size) from hg4) (by simp))
       |(refine step_appV intEl (.tmp 40) (.tmp 43) rfl rfl HOxa.out (HTK.out _ HSxa.out) HA3.out.no (cN_one _) (by omega) (by omega) HSxa.out.size (by rfl) (by rfl) ?_;intro v4 w4 hown4 hb4 hg4;have hS4:=HSxa.out.trans hb4;have hrx:=rdV_far (sz:=1) (b:=w3.heap.size) (X:=[.int .i64 (p:Int)]) (t:=3) (w:=w3.drew) (g:=w3.heap.size+1) rfl rfl ((World.grownBy_alloc (w3.drew.alloc (.cells #[.int .i64 (p:Int)] 3)) (.cells #[] 3) (some (w3.heap.size+1))).trans (show((w3.drew.alloc (.cells #[.int .i64 (p:Int)] 3)).alloc (.cells #[] 3)).grownBy w4 (some (w3.heap.size+1)) from hg4)) (by simp))
       |(refine step_appV (c:=1) intEl (.tmp 44) (.tmp 46) rfl rfl (own_below hown4 (ext_alloc w4 (.cells #[.int .i64 (p:Int)] 3)) (Nat.le_refl _)) (rdV_new (sz:=1) 3 w4 [.int .i64 (p:Int)] rfl) (fun h=>by cases h) (fun u hu=>by simp at hu;subst hu;rfl) (by omega) (by omega) (Nat.le_trans hS4.size (ext_alloc w4 (.cells #[.int .i64 (p:Int)] 3)).size) (by rfl) (by rfl) ?_;intro v5 w5 hown5 hb5 hg5;have hS5:=hS4.trans (((ext_alloc w4 (.cells #[.int .i64 (p:Int)] 3)).mono hS4.size).trans hb5))
       |(refine step_appV (c:=1) intEl (.tmp 44) (.tmp 46) rfl rfl hown4 hrx (fun h=>by cases h) (fun u hu=>by simp at hu;subst hu;rfl) (by omega) (by omega) hS4.size (by rfl) (by rfl) ?_;intro v5 w5 hown5 hb5 hg5;have hS5:=hS4.trans hb5)
       |(refine step_appV intEl (.tmp 47) (.tmp 50) rfl rfl hown5 (HDR.out _ hS5) (by have h:=HA3.out.drop0_no;rwa [Nat.mul_one] at h) (cN_one _) (by omega) (by omega) hS5.size (by rfl) (by rfl) ?_;intro v6 w6 hown6 hb6 hg6;have hS6:=hS5.trans hb6))
      all_goals (
       have HX6:Aside (w6.ownsRow w.heap.size 3 1 v6 (p+1) (cN (A.take p++[p]++A.drop p))/\Below w.heap.size w w6):=by
        refine⟨?_,HB3.out.trans (hS6.mono HB3.out.size)⟩;rw[cN_app,cN_app,cN_mk];have hh:=own_lower hown6 HB3.out.size;rw[List.nil_append] at hh;have e:0+p+1+0=p+1:=by omega
        rw[e] at hh;exact hh
       clear hown6 hown5 hown4 hS6 hS5 hS4;go_wp2_with fail
       all_goals (
        go_roundg (s.size-p)
        case measure=>omega
        case rel=>exact⟨p+1,A.take p++[p]++A.drop p,by go_num,by omega,by omega,HPUT.out,HX6.out⟩))
  ·obtain rfl:p=s.size+1:=by omega
   have HAL:Aside (Sorted s.data.toList A):=SrtTo.all (by rw[HSL.out];exact hA.out);have h3: ¬ ((s.size+1:Nat):Int)<=(s.size:Int):=by omega
   have HO:Aside (wr.ownsRow w.heap.size 3 1 (.slice Ao (s.size+1) co) A.length (cN A)/\Below w.heap.size w wr):=⟨by rw[hAl];exact HO1.out,HB.out⟩
   clear hA hAl hin;go_wp2_with fail
   go_ret2
   first|exact⟨_,A,rfl,HAL.out,HO.out⟩|exact⟨_,rfl,A,HAL.out,HO.out⟩
end Rf
end Go.Proofs.YtjligbmickfbdaaGreat
namespace Go.Proofs.YtjligbmickfbdaaGreat
namespace Rf
open Go.RowKit Sx Bw
theorem lst_zero {s:List UInt8} {A:List Nat} {i:Nat} (h:A[i]? =some 0):lst s (A.take (i+1))=lst s (A.take i):=by
 unfold lst;rw[List.take_add_one,h,List.filter_append];simp
theorem lst_snoc {s:List UInt8} {A:List Nat} {i r:Nat} (h:A[i]? =some (r+1)):lst s (A.take (i+1))=lst s (A.take i)++[s.getD r 0]:=by
 unfold lst;rw[List.take_add_one,h,List.filter_append,List.map_append];simp
theorem rowT_snoc {s:ByteArray} {X:List UInt8} {r:Nat} (h:r<s.size):rowT X++s.extract r (r+1)=rowT (X++[s.data.toList.getD r 0]):=by
 have hl:s.data.toList.length=s.size:=rfl;apply ByteArray.ext
 apply Array.toList_inj.1
 rw[ByteArray.data_append,Array.toList_append,ByteArray.data_extract,Array.toList_extract,rowT_list,List.extract_eq_take_drop,rowT_list,show r+1-r=1 by omega,List.drop_eq_getElem_cons (by omega),List.getD_eq_getElem?_getD,List.getElem?_eq_getElem (by omega)];rfl
theorem pri_is {s:List UInt8} {A:List Nat} (h:Sorted s A) {i:Nat} (hi:A[i]? =some 0):pri A=i:=by
 obtain⟨X,Y,e,hl,hX,hY⟩:=pri_at h;rw[<-hl];rw[e] at hi;rcases Nat.lt_trichotomy i X.length with h1|h1|h1
 ·rw[List.getElem?_append_left h1,List.getElem?_eq_getElem h1] at hi
  exact absurd (Option.some.inj hi) (hX _ (List.getElem_mem h1))
 ·exact h1.symm
 ·rw[List.getElem?_append_right (by omega),show i-X.length=(i-X.length-1)+1 by omega,List.getElem?_cons_succ] at hi
  exact absurd rfl (hY 0 (List.mem_of_getElem? hi))
theorem mem_take_succ {A:List Nat} {i x:Nat} (h:A[i]? =some (x+1)):0∈A.take (i+1)↔0∈A.take i:=by
 rw[List.take_add_one,h,List.mem_append];simp
theorem lst_le (s:List UInt8) (A:List Nat) (i:Nat):(lst s (A.take i)).length<=i:=by
 unfold lst;rw[List.length_map];exact Nat.le_trans (List.length_filter_le _ _) (by rw[List.length_take];omega)
set_option maxHeartbeats 6400000 in
set_option maxRecDepth 100000 in
theorem refforward_any (s:ByteArray) (w:World) (hs:s.size<=20000) :
  Calls Tryz.prog 24 #[.string s] w fun e w'=>∃A,Sorted s.data.toList A/\e=.returned (.tuple #[.string (rowT (lst s.data.toList A)),.int .i64 (pri A:Int),.int .i64 0])/\Below w.heap.size w w':=by
 have HC:=Lib.hid (refarray_any s w hs);have HSL:Hid (s.data.toList.length=s.size):=rfl
 go_enter Tryz.func24, Tryz.ntmps24
 go_wp2_with (go_at_call 55;refine HC.out.mono ?_;rintro e1 w1 ⟨v1,A,rfl,hA,hown1,hb1⟩)
 obtain⟨Ao,co,rfl,harg⟩:=argV_of_own hown1;have hAl:=A_len hA;rw[HSL.out] at hAl;have HA:=Lib.hid hA;have HAR:=Lib.hid harg;have HB1:=Lib.hid hb1;generalize hN:A.length=N at *
 have hNb:N<=20001:=by omega
 have HAL:=Lib.hid hAl;have HN:=Lib.hid hN;clear hA harg hb1 hown1 hAl hN;go_wp2_with fail
 go_loopg [7,8,9] N (fun kx s7 s8 s9 wr=>∃(i pr:Nat),s9=.int .i64 (i:Int)/\s8=.int .i64 (pr:Int)/\s7=.string (rowT (lst s.data.toList (A.take i)))/\i<=N/\N-i<=kx/\Hid (0∈A.take i->pr=pri A)/\Aside (w1=wr))
 case atStart=>exact⟨0,0,by go_num,by go_num,rfl,by omega,by omega,(fun h=>by simp at h),rfl⟩
 case round =>
  obtain⟨i,pr,rfl,rfl,rfl,hi,hik,hpr,hw⟩:=hrel;obtain rfl:=hw.out;by_cases hin:i<N
  ·have hli:=lst_le s.data.toList A i
   have hget:A[i]? =some (A[i]'(by rw[HN.out];exact hin)):=List.getElem?_eq_getElem _;have hmem:=(A_mem HA.out (A[i]'(by rw[HN.out];exact hin))).1 (List.getElem_mem _);rw[HSL.out] at hmem;obtain⟨ad,rfl⟩:=HAR.out.some (by omega);have hcell:=argV_cell HAR.out (Below.refl _ _) hget;generalize A[i]'_=q at *
   rcases q with _|r
   ·have hcell:w1.cell? (ad.add i)=some (.int .i64 0):=hcell
    have HL:=Lib.hid (lst_zero (s:=s.data.toList) hget);have HP:=Lib.hid (pri_is HA.out hget);clear hget hmem;go_wp2_with fail
    go_roundg (N-(i+1))
    case measure=>omega
    case rel=>exact⟨i+1,i,by go_num,by go_num,by rw[HL.out],by omega,by omega,(fun _=>HP.out.symm),rfl⟩
   ·have hcell:w1.cell? (ad.add i)=some (.int .i64 ((r:Int)+1)):=by rw[hcell];rfl
    have HL:=Lib.hid (lst_snoc (s:=s.data.toList) hget);have HM:=Lib.hid (mem_take_succ hget);have hcat:=rowT_snoc (s:=s) (X:=lst s.data.toList (A.take i)) (r:=r) (by omega);have hz:(rowT (lst s.data.toList (A.take i))).size+(s.extract r (r+1)).size<=9223372036854775807:=by
     rw[rowT_size,ByteArray.size_extract];omega
    have g1:(0:Int)<=(r:Int):=by omega
    have g2:(r:Int)<=(r:Int)+1:=by omega
    have g3:(r:Int)+1<=(s.size:Int):=by omega
    have g4: ¬ ((r:Int)+1=0):=by omega
    clear hget hmem;rw[<-HL.out] at hcat;generalize lst s.data.toList (A.take i)=X at *
    generalize hYe:rowT (lst s.data.toList (A.take (i+1)))=Y at *
    have HY:=Lib.hid hYe;clear hYe;go_wp2_with fail
    go_roundg (N-(i+1))
    case measure=>omega
    case rel=>exact⟨i+1,pr,by go_num,by go_num,by rw[HY.out],by omega,by omega,(fun h=>hpr.out (HM.out.1 h)),rfl⟩
  ·obtain rfl:i=N:=by omega
   have h0:(0:Nat)∈A.take i:=by
    rw[<-HN.out,List.take_length];exact(A_mem HA.out 0).2 (by omega)
   have HP:=Lib.hid (hpr.out h0);have HT:Hid (lst s.data.toList (A.take i)=lst s.data.toList A):=by show _=_;rw[<-HN.out,List.take_length]
   clear hpr h0;go_wp2_with fail
   go_ret3
   exact⟨A,HA.out,by rw[HT.out,HP.out];rfl,HB1.out⟩
end Rf
end Go.Proofs.YtjligbmickfbdaaGreat
namespace Go.Proofs.YtjligbmickfbdaaGreat
namespace Rf
open Go.RowKit Fr
theorem rks_step {R0 row:List UInt8} {s:List UInt8} {acc:List Int} {i:Nat} (h:i<s.length) (he:acc++rks row (s.drop i)=rks R0 s) :
  (acc++[(plc s[i] row:Int)])++rks (mv row (plc s[i] row)) (s.drop (i+1))=rks R0 s:=by
 rw[<-he,List.drop_eq_getElem_cons h,rks];simp
set_option maxHeartbeats 6400000 in
set_option maxRecDepth 100000 in
theorem ranks_any (s:ByteArray) (w:World) (hs:s.size<=1000000) :
  Calls Tryz.prog 26 #[.string s] w fun e w'=>∃v,e=.returned v/\Own w' w.heap.size v (rks row0 s.data.toList)/\Below w.heap.size w w':=by
 have hln:s.data.toList.length=s.size:=rfl;have HB:=Lib.hid (fun w=>begun_any w);have HP:=Lib.hid (fun l c w=>place_any l c w);have HM:=Lib.hid (fun l i w=>moved_any l i w);have H0:Aside (row0.length=256/\ ∀c,c∈row0):=⟨length_row0,row0_mem⟩
 have hrz:=Lib.hid hln;clear hln;generalize hR:row0=R0 at *
 clear hR
 go_enter Tryz.func26, Tryz.ntmps26
 go_wp2_with (go_at_call 57;refine(HB.out _).mono ?_;rintro e1 w1 ⟨rfl,hb1⟩)
 have H1:Aside (Below w.heap.size w w1):=hb1;clear hb1;go_loopg [3,4,5] s.size (fun kx s3 s4 s5 wr=>∃(i:Nat) (row:List UInt8) (acc:List Int),s5=.int .i64 (i:Int)/\s3=.string (rowT row)/\i<=s.size/\s.size-i<=kx/\Aside (row.length=256/\ ∀c,c∈row)/\acc.length=i/\Hid (acc++rks row (s.data.toList.drop i)=rks R0 s.data.toList)/\Aside (Own wr w.heap.size s4 acc/\Below w.heap.size w wr))
 case atStart=>exact⟨0,R0,[],by go_num,rfl,by omega,by omega,H0,rfl,by show _=_;simp,World.ownsRow_nil _ _ _ _,H1.out⟩
 case round =>
  obtain⟨i,row,acc,rfl,rfl,hi,hik,hrow,hacc,he,H⟩:=hrel;by_cases hlt:i<s.size
  ·have hst:=rks_step (i:=i) (by rw[hrz.out];exact hlt) he.out
   have hg:s[i]=s.data.toList[i]'(by rw[hrz.out];exact hlt):=rfl;rw[<-hg] at hst;clear hg;have hc:=hrow.out.2 s[i];have hpl:=(plc_lt _ _ hc).1;rw[hrow.out.1] at hpl;have hst:=Lib.hid hst;have hmv:Aside ((mv row (plc s[i] row)).length=256/\ ∀c,c∈mv row (plc s[i] row)):=⟨by rw[length_mv];exact hrow.out.1,fun c=>(mv_perm _ _).mem_iff.2 (hrow.out.2 c)⟩
   have HP2:=Lib.hid (fun w=>HP.out row s[i] w hc (by rw[hrow.out.1];omega));have HM2:=Lib.hid (fun w=>HM.out row (plc s[i] row) w (by rw[hrow.out.1];exact hpl) (by rw[hrow.out.1];omega));generalize hci:s[i]=c at *
   have hci:s[i]=c:=hci;generalize plc c row=p at *
   generalize mv row p=row2 at *
   clear hc he HP HM hrow;go_wp2_with (first|(go_at_call 58;refine(HP2.out _).mono ?_;rintro e2 w2 ⟨rfl,rfl⟩)|(go_at_call 59;refine(HM2.out _).mono ?_;rintro e3 w3 ⟨rfl,hb3⟩)|(at_builtin;refine append1 H.out.1 (by omega) H.out.2.size ?_;intro A4 n4 c4 w4 hn4 hown4 hb4 hg4 _))
   go_roundg (s.size-(i+1))
   case measure=>omega
   case rel=>exact⟨i+1,row2,acc++[(p:Int)],by go_num,rfl,by omega,by omega,hmv,by simp;omega,hst,hown4.below hb3 (Nat.le_refl _),ext_trans (H.out.2.trans hb4) hb3⟩
  ·obtain rfl:i=s.size:=by omega
   have hee:=he.out;rw[<-hrz.out,List.drop_length,rks,List.append_nil] at hee;have H2:Aside (Own wr w.heap.size u4 (rks R0 s.data.toList)/\Below w.heap.size w wr):=⟨hee▸H.out.1,H.out.2⟩
   clear H he hee hacc hrz;go_wp2_with fail
   go_ret
   exact⟨_,rfl,H2.out⟩
end Rf
end Go.Proofs.YtjligbmickfbdaaGreat
namespace Go.Proofs.YtjligbmickfbdaaGreat
namespace Zr
open Go.RowKit
set_option maxHeartbeats 800000 in
theorem digitsR_any (n:Int) (h0:n<=9223372036854775807) (w:World) :
  Calls Tryz.prog 56 #[.int .i64 n] w fun e w'=>∃v,e=.returned v/\Own w' w.heap.size v (digits n)/\Below w.heap.size w w':=by
 by_cases h1:n<1
 ·have hd:digits n=[]:=if_pos h1
  rw[hd];clear hd
  go_enter Tryz.func56, Tryz.ntmps56
  go_wp2_with fail
  go_rounds 1
  go_wp2_with fail
  go_ret
  exact⟨_,rfl,World.ownsRow_nil _ _ _ _,Below.refl _ _⟩
 ·obtain⟨N,rfl⟩:=Int.eq_ofNat_of_zero_le (show 0<=n by omega)
  rw[digits_nat];have hlen:=length_digTo (N+1) (by omega) (by omega);rw[<-digR_eq] at hlen ⊢;clear h1
  go_enter Tryz.func56, Tryz.ntmps56
  go_wp2_with fail
  go_loopw [0,3] (fun m v wr=>∃(mk:Nat) (acc:List Int),m=.int .i64 mk/\mk<=N/\Hid (acc++digR mk=digR N)/\acc.length<=63/\Own wr w.heap.size v acc/\Below w.heap.size w wr) (fun m _ _=>(intOf m).toNat)
  case atStart=>exact⟨N,[],rfl,by omega,rfl,by simp,World.ownsRow_nil _ _ _ _,Below.refl _ _⟩
  case round =>
   obtain⟨mk,acc,rfl,hm1,heq,hacc,hown,hbw⟩:=hrel;by_cases hlt:0<mk
   ·have hst:=digR_step hlt
    have hac:(acc++[(2-(mk%2:Nat):Int)])++digR ((mk-(2-mk%2))/2)=digR N:=by
     have:=heq.out;rw[hst] at this;simpa using this
    have hll:=congrArg List.length hac;simp only[List.length_append,List.length_cons,List.length_nil] at hll;have Hac:=Lib.hid hac;clear hst hac;go_wp2_with (at_builtin;(refine append1 hown (by omega) hbw.size ?_);intro A1 n1 c1 w1 _ hown1 hb1 _ _)
    refine⟨⟨(mk-(2-mk%2))/2,_,?_,by omega,Hac.out,by simp;omega,?_,hbw.trans hb1⟩,by simp[intOf];omega⟩
    ·refine congrArg (Value.int .i64) ?_
     omega
    ·have hy:(2-(mk:Int)%2)=(2-(mk%2:Nat):Int):=by omega
     rwa [hy] at hown1
   ·have hm0:mk=0:=by omega
    subst hm0;have he:acc=digR N:=by have:=heq.out;rwa [digR_zero,List.append_nil] at this
    have He:=Lib.hid he;clear he;go_wp2_with fail
    go_ret
    exact⟨_,rfl,He.out▸hown,hbw⟩
def invP (l:List Int) (k r:Nat) (acc:List Int):Prop :=
 if k<=l.length then acc++pk r (l.drop k)=pk 0 l/\(l.take k).all okRank=true else acc=pk 0 l/\l.all okRank=true
theorem invP_zero {l:List Int} {k r:Nat} {acc:List Int} (h:invP l k r acc) (hx:l[k]? =some 0):invP l (k+1) (r+1) acc:=by
 have hk:k<l.length:=(List.getElem?_eq_some_iff.1 hx).1;unfold invP at h ⊢;rw[if_pos (by omega)] at h ⊢;rw[drop_at l k 0 hx,pk,if_pos rfl] at h;exact⟨h.1,all_take_int l okRank k 0 hx h.2 rfl⟩
theorem invP_sym {l:List Int} {k r:Nat} {acc:List Int} {x:Int} (h:invP l k r acc) (hx:l[k]? =some x) (h0:x≠0) (ho:okRank x=true):invP l (k+1) 0 (acc++low r++[x+1]):=by
 have hk:k<l.length:=(List.getElem?_eq_some_iff.1 hx).1;unfold invP at h ⊢;rw[if_pos (by omega)] at h ⊢;rw[drop_at l k x hx,pk,if_neg h0] at h;exact⟨by rw[<-h.1];simp,all_take_int l okRank k x hx h.2 ho⟩
theorem invP_end {l:List Int} {r:Nat} {acc:List Int} (h:invP l l.length r acc):invP l (l.length+1) 0 (acc++low r):=by
 unfold invP at h ⊢;rw[if_pos (by omega)] at h;rw[if_neg (by omega)];rw[List.drop_length,pk,List.take_length] at h;exact h
theorem invP_len {l:List Int} {k r:Nat} {acc:List Int} (h:invP l k r acc):acc.length<=l.length:=by
 have hl:=length_pk l 0;unfold invP at h;split at h
 ·have:=congrArg List.length h.1
  rw[List.length_append] at this;omega
 ·rw[h.1];omega
set_option maxRecDepth 100000 in
set_option maxHeartbeats 3200000 in
theorem packR_any (A:Option Addr) (n c:Nat) (l:List Int) (w:World) (hn:n<=5000000) (hrd:Rd w w.heap.size 1 A n (l.map (Value.int .i64))) :
  Calls Tryz.prog 25 #[.slice A n c] w fun e w'=>∃v,e=.returned (.tuple #[v,.int .i64 (packE l)])/\Own w' w.heap.size v (packL l)/\Below w.heap.size w w':=by
 have hln:l.length=n:=by simpa using hrd.len
 have Hln:=Lib.hid hln;clear hln
 go_enter Tryz.func25, Tryz.ntmps25
 go_wp2_with fail
 go_loopw [4,5,6] (fun u rv i wr=>∃(k r:Nat) (acc:List Int),i=.int .i64 k/\k<=n+1/\rv=.int .i64 r/\r<=k/\Own wr w.heap.size u acc/\Below w.heap.size w wr/\Hid (invP l k r acc)) (fun _ _ i _=>n+1-(intOf i).toNat)
 case atStart=>exact⟨0,0,[],rfl,by omega,rfl,by omega,World.ownsRow_nil _ _ _ _,Below.refl _ _,(show invP l 0 0 [] from by unfold invP;rw[if_pos (Nat.zero_le _)];simp)⟩
 case round =>
  obtain⟨k,r,acc,rfl,hk,rfl,hr,gown,gb,ginv⟩:=hrel;have hal:=invP_len ginv.out;rw[Hln.out] at hal;have grd:=hrd.below gb;have hB:=gb.size;by_cases hlt:k<n
  ·obtain⟨ad,x,rfl,had,hx,hcell⟩:=grd.int1 hlt
   have Hx:=Lib.hid hx;clear hx;by_cases hx0:x<0
   ·go_wp2_with fail
    go_ret2
    have hno:l.all okRank=false:=all_false_int l okRank k x Hx.out (by simp[okRank];omega);unfold packE packL;rw[if_neg (by rw[hno];simp),if_neg (by rw[hno];simp)];exact⟨_,rfl,World.ownsRow_nil _ _ _ _,gb⟩
   by_cases hx1:255<x
   ·go_wp2_with fail
    go_ret2
    have hno:l.all okRank=false:=all_false_int l okRank k x Hx.out (by simp[okRank];omega);unfold packE packL;rw[if_neg (by rw[hno];simp),if_neg (by rw[hno];simp)];exact⟨_,rfl,World.ownsRow_nil _ _ _ _,gb⟩
   have hok:okRank x=true:=by simp[okRank];omega
   have Hok:=Lib.hid hok;clear hok;by_cases hx2:x=0
   ·subst hx2
    go_wp2_with fail
    go_roundw
    case rel=>exact⟨k+1,r+1,acc,by go_num,by omega,by go_num,by omega,gown,gb,invP_zero ginv.out Hx.out⟩
    case measure=>simp[intOf];omega
   ·have hxb:(x==0)=false:=by rw[beq_eq_false_iff_ne];exact hx2
    have Hinv:=Lib.hid (invP_sym ginv.out Hx.out hx2 Hok.out);have hcw:w.cell? (ad.add k)=some (.int .i64 x):=((gb.cell (p:=ad.add k) (by rw[add_block];omega)).symm).trans hcell;have hdl:=length_digits r (by omega);have hul:=World.ownsRow.lt gown;go_wp2_with fail
    refine(digitsR_any r (by omega) _).mono ?_;rintro e w1 ⟨d,rfl,hd,hb1⟩;obtain⟨A1,c1,rfl,hc1,hm1,_⟩:=hd.rd;have gown1:Own w1 w.heap.size _ acc:=gown.below hb1 (Nat.le_refl _);have gb1:Below w.heap.size w w1:=gb.trans (hb1.mono hB);have hdlt:=World.ownsRow.lt hd;have hz1:=hb1.size;have hcell1:=(hb1.cell (p:=ad.add k) (by rw[add_block];omega)).trans hcell;clear hcell;go_wp2_with fail
    obtain⟨wo,hwo⟩:∃wo:World,wo=wr:=⟨_,rfl⟩
    subst hwo;go_loopw [4,8] (fun u j w2=>∃kk:Nat,j=.int .i64 kk/\kk<=(digits r).length/\Own w2 w.heap.size u (acc++(low r).take kk)/\Below w.heap.size w w2/\Own w2 wo.heap.size (.slice A1 (digits r).length c1) (digits r) /\
      (u.ownBlock=u4.ownBlock∨ ∃g,u.ownBlock=some g/\w1.heap.size<=g)/\w1.heap.size<=w2.heap.size) (fun _ j _=>(digits r).length-(intOf j).toNat)
    case atStart=>exact⟨0,rfl,by omega,by simpa using gown1,gb1,hd,.inl rfl,Nat.le_refl _⟩
    case round =>
     obtain⟨kk,rfl,hkk,qown,qb,qd,qu,qz⟩:=hrel;have hB2:=qb.size;have quD:Value.ownBlock (.slice A1 (digits r).length c1)=none∨Value.ownBlock (.slice A1 (digits r).length c1)≠Value.ownBlock u4:=by
      rcases hx:Value.ownBlock (.slice A1 (digits r).length c1) with _|gd
      ·exact .inl rfl
      ·right
       have h1:=hdlt gd hx;rcases qu with e|⟨g,e,hg⟩
       ·rw[e];intro h;have:=hul gd h.symm;omega
       ·rw[e];intro h;simp at h;omega
     obtain⟨_,_,hAe,_,_,qrd⟩:=qd.rd;simp only[Value.slice.injEq,true_and] at hAe;obtain⟨rfl,rfl⟩:=hAe;by_cases hlt2:kk<(digits r).length
     ·obtain⟨a2,y,rfl,_,hy,hcy⟩:=qrd.int1 hlt2
      have hy12:=digits_12 r kk y hy;have Hy:=Lib.hid hy;clear hy;go_wp2_with (at_builtin;(refine append1 qown (by simp;omega) hB2 ?_);intro A3 n3 c3 w3 hn3 hown3 hb3 hg3 hat3)
      go_roundw
      case rel =>
       refine⟨kk+1,by go_num,by omega,?_,qb.trans hb3,World.ownsRow.kept qd hg3 quD,?_,Nat.le_trans qz hb3.size⟩
       ·rw[low_at r kk y Hy.out,<-List.append_assoc];exact hown3
       ·rcases hat3 with e|⟨g,e,hg⟩
        ·rw[e];exact qu
        ·exact .inr ⟨g,e,by omega⟩
      case measure=>simp[intOf];omega
     ·rw[List.take_of_length_le (by rw[low_is,List.length_map];omega)] at qown
      have hll:=length_low r;clear qu quD qd qrd;have hcz:=(qb.cell (p:=ad.add k) (by rw[add_block];omega)).trans hcw;go_wp2_with (at_builtin;(refine append1 qown (by simp;omega) hB2 ?_);intro A4 n4 c4 w4 hn4 hown4 hb4 hg4 hat4)
      go_roundw
      case rel=>exact⟨k+1,0,_,by go_num,by omega,by go_num,by omega,hown4,qb.trans hb4,Hinv.out⟩
      case measure=>simp[intOf];omega
  ·by_cases hke:k=n
   ·subst hke
    have hin:=ginv.out;rw[<-Hln.out] at hin;have hin2:=invP_end hin;rw[Hln.out] at hin2;have Hinv:=Lib.hid hin2;clear hin hin2;have hdl:=length_digits r (by omega);have hul:=World.ownsRow.lt gown;go_wp2_with fail
    refine(digitsR_any r (by omega) _).mono ?_;rintro e w1 ⟨d,rfl,hd,hb1⟩;obtain⟨A1,c1,rfl,hc1,hm1,_⟩:=hd.rd;have gown1:Own w1 w.heap.size _ acc:=gown.below hb1 (Nat.le_refl _);have gb1:Below w.heap.size w w1:=gb.trans (hb1.mono hB);have hdlt:=World.ownsRow.lt hd;have hz1:=hb1.size
    skip
    go_wp2_with fail
    obtain⟨wo,hwo⟩:∃wo:World,wo=wr:=⟨_,rfl⟩
    subst hwo;go_loopw [4,8] (fun u j w2=>∃kk:Nat,j=.int .i64 kk/\kk<=(digits r).length/\Own w2 w.heap.size u (acc++(low r).take kk)/\Below w.heap.size w w2/\Own w2 wo.heap.size (.slice A1 (digits r).length c1) (digits r) /\
      (u.ownBlock=u4.ownBlock∨ ∃g,u.ownBlock=some g/\w1.heap.size<=g)/\w1.heap.size<=w2.heap.size) (fun _ j _=>(digits r).length-(intOf j).toNat)
    case atStart=>exact⟨0,rfl,by omega,by simpa using gown1,gb1,hd,.inl rfl,Nat.le_refl _⟩
    case round =>
     obtain⟨kk,rfl,hkk,qown,qb,qd,qu,qz⟩:=hrel;have hB2:=qb.size;have quD:Value.ownBlock (.slice A1 (digits r).length c1)=none∨Value.ownBlock (.slice A1 (digits r).length c1)≠Value.ownBlock u4:=by
      rcases hx:Value.ownBlock (.slice A1 (digits r).length c1) with _|gd
      ·exact .inl rfl
      ·right
       have h1:=hdlt gd hx;rcases qu with e|⟨g,e,hg⟩
       ·rw[e];intro h;have:=hul gd h.symm;omega
       ·rw[e];intro h;simp at h;omega
     obtain⟨_,_,hAe,_,_,qrd⟩:=qd.rd;simp only[Value.slice.injEq,true_and] at hAe;obtain⟨rfl,rfl⟩:=hAe;by_cases hlt2:kk<(digits r).length
     ·obtain⟨a2,y,rfl,_,hy,hcy⟩:=qrd.int1 hlt2
      have hy12:=digits_12 r kk y hy;have Hy:=Lib.hid hy;clear hy;go_wp2_with (at_builtin;(refine append1 qown (by simp;omega) hB2 ?_);intro A3 n3 c3 w3 hn3 hown3 hb3 hg3 hat3)
      go_roundw
      case rel =>
       refine⟨kk+1,by go_num,by omega,?_,qb.trans hb3,World.ownsRow.kept qd hg3 quD,?_,Nat.le_trans qz hb3.size⟩
       ·rw[low_at r kk y Hy.out,<-List.append_assoc];exact hown3
       ·rcases hat3 with e|⟨g,e,hg⟩
        ·rw[e];exact qu
        ·exact .inr ⟨g,e,by omega⟩
      case measure=>simp[intOf];omega
     ·rw[List.take_of_length_le (by rw[low_is,List.length_map];omega)] at qown
      have hll:=length_low r;clear qu quD qd qrd;go_wp2_with fail
      go_roundw
      case rel=>exact⟨k+1,0,_,by go_num,by omega,by go_num,by omega,qown,qb,Hinv.out⟩
      case measure=>simp[intOf]
   ·have hinv:=ginv.out
    unfold invP at hinv;rw[if_neg (by have:=Hln.out;omega)] at hinv;have Hi:=Lib.hid hinv;clear hinv;go_wp2_with fail
    go_ret2
    unfold packE packL;rw[if_pos Hi.out.2,if_pos Hi.out.2,<-Hi.out.1];exact⟨_,rfl,gown,gb⟩
end Zr
end Go.Proofs.YtjligbmickfbdaaGreat
namespace Go.Proofs.YtjligbmickfbdaaGreat
namespace Rf
open Go.RowKit Vi Zr Sq Hf
set_option maxHeartbeats 6400000 in
set_option maxRecDepth 100000 in
theorem refsymbols_any (s:ByteArray) (w:World) (hs:s.size<=20000) :
  Calls Tryz.prog 9 #[.string s] w fun e w'=>∃arr v,Sx.Sorted s.data.toList arr/\e=.returned (.tuple #[v,.int .i64 (Bw.pri arr:Int),.int .i64 0])/\Own w' w.heap.size v (sy s.data.toList arr)/\Below w.heap.size w w':=by
 have mixed:Tryz.prog.follows .mixedOrders=true:=by kernel_rfl
 have HF:=Lib.hid (refforward_any s w hs)
 go_enter Tryz.func9, Tryz.ntmps9
 go_wp2_with fail
 refine HF.out.mono ?_;rintro e1 w1 ⟨arr,hso,rfl,hb1⟩;have hll:=Bw.length_lst hso;obtain⟨t,ht⟩:∃t:ByteArray,t=rowT (Bw.lst s.data.toList arr):=⟨_,rfl⟩
 have htl:t.data.toList=Bw.lst s.data.toList arr:=by rw[ht];rfl
 have hts:t.size=s.size:=by
  have:t.size=t.data.toList.length:=rfl;rw[this,htl,hll];rfl
 rw[<-ht];have HR:=Lib.hid (ranks_any t w1 (by omega));rw[htl] at HR;have HSO:=Lib.hid hso;have HB1:=Lib.hid hb1;have hrl:=Fr.length_rks (Bw.lst s.data.toList arr) Fr.row0;have hrok:=(rks_ok (Bw.lst s.data.toList arr)).1;have hsy:sy s.data.toList arr=pk 0 (Fr.rks Fr.row0 (Bw.lst s.data.toList arr)):=rfl;have HSY:=Lib.hid hsy;have HROK:=Lib.hid hrok;have hrl2:(Fr.rks Fr.row0 (Bw.lst s.data.toList arr)).length=s.size:=by rw[hrl,hll];rfl
 generalize Fr.rks Fr.row0 (Bw.lst s.data.toList arr)=rk at *
 clear ht htl hso hb1 hll hrl hsy hrok;go_wp2_with fail
 refine HR.out.mono ?_;rintro e2 w2 ⟨v2,rfl,hown2,hb2⟩;obtain⟨A2,c2,rfl,_,_,hrd2⟩:=hown2.rd;rw[hrl2] at hrd2 ⊢;have HP:=Lib.hid (packR_any A2 s.size c2 rk w2 (by omega) hrd2);have HB2:=Lib.hid (ext_trans HB1.out hb2);clear hown2 hrd2 hb2 HR;go_wp2_with fail
 refine HP.out.mono ?_;rintro e3 w3 ⟨v3,rfl,hown3,hb3⟩;have hpe:packE rk=0:=if_pos HROK.out;have hpl:packL rk=pk 0 rk:=if_pos HROK.out;rw[hpl,<-HSY.out] at hown3;rw[hpe];have HX:=Lib.hid (And.intro (hown3.lower HB2.out.size) (ext_trans HB2.out hb3));clear hown3 hb3 hpe hpl HP;go_wp2_with fail
 go_ret3
 exact⟨arr,_,HSO.out,rfl,HX.out.1,HX.out.2⟩
theorem vtxt_len (N:Nat) (h:N<=20000):(vtxt N).size<=9:=by
 show(putV N).toArray.size<=9
 rw[List.size_toArray]
 exact length_putV_le N 8 (by have:(128:Nat)^(8+1)=9223372036854775808:=by decide
                              omega)
theorem hbyt_len (l:List Int) (h:l.length<=20000):(hbyt l).length<=60000:=by
 have:=hb_len l h;unfold hbyt;rw[Bt.length_byt];omega
set_option maxHeartbeats 6400000 in
set_option maxRecDepth 100000 in
theorem refpack_any (s:ByteArray) (w:World) (hs:s.size<=20000) :
  Calls Tryz.prog 7 #[.string s] w fun e w'=>∃arr,Sx.Sorted s.data.toList arr/\e=.returned (.tuple #[.string ⟨(packed s.data.toList arr).toArray⟩,.int .i64 0])/\Below w.heap.size w w':=by
 have mixed:Tryz.prog.follows .mixedOrders=true:=by kernel_rfl
 have HS:=Lib.hid (refsymbols_any s w hs)
 go_enter Tryz.func7, Tryz.ntmps7
 go_wp2_with fail
 refine HS.out.mono ?_;rintro e1 w1 ⟨arr,v1,hso,rfl,hown1,hb1⟩;obtain⟨A1,c1,rfl,hc1,hm1,hr1⟩:=hown1.rd;have hsl:=sy_len hso;have hpl:=pri_le hso;have hsz:s.data.toList.length=s.size:=rfl;rw[hsz] at hsl hpl;have hok:=sy_ok (s:=s.data.toList) (A:=arr);have hpk:(vtxt s.size++vtxt (Bw.pri arr)++vtxt (sy s.data.toList arr).length++⟨(hbyt (sy s.data.toList arr)).toArray⟩:ByteArray)=⟨(packed s.data.toList arr).toArray⟩:=by
  apply ByteArray.ext
  simp[ByteArray.data_append,vtxt,packed,hsz]
 have h1:=vtxt_len s.size hs;have h2:=vtxt_len (Bw.pri arr) (by omega);have h3:=vtxt_len (sy s.data.toList arr).length (by omega);have h4:=hbyt_len (sy s.data.toList arr) (by omega);have HE:=Lib.hid (fun A c (w:World) hr=>refencode_any A (sy s.data.toList arr).length c (sy s.data.toList arr) w (by omega) hok hr);have HPU:=Lib.hid (fun(N:Nat) (hN:N<=20000) (w:World)=>refput_any (N+1) N w (by omega) (by omega));have HPK:=Lib.hid hpk;have HSO:=Lib.hid hso;have HB1:=Lib.hid hb1;have HR1:=Lib.hid hr1;have hT:(⟨(hbyt (sy s.data.toList arr)).toArray⟩:ByteArray).size=(hbyt (sy s.data.toList arr)).length:=List.size_toArray ..;generalize (⟨(hbyt (sy s.data.toList arr)).toArray⟩:ByteArray)=TT at *
 generalize hPPe:packed s.data.toList arr=PP at *
 have HPP:=Lib.hid hPPe;clear hPPe;generalize sy s.data.toList arr=sy0 at *
 generalize hpr:Bw.pri arr=pr at *
 have HPR:=Lib.hid hpr;have h4:TT.size<=60000:=by omega
 have hprb:pr<=20000:=by omega
 have hslb:sy0.length<=20000:=by omega
 have HPa:=Lib.hid (fun w=>HPU.out s.size hs w);have HPb:=Lib.hid (fun w=>HPU.out pr hprb w);have HPc:=Lib.hid (fun w=>HPU.out sy0.length hslb w);generalize vtxt s.size=Ta at *
 generalize vtxt pr=Tb at *
 generalize vtxt sy0.length=Tc at *
 have f1:Ta.size+Tb.size<=9223372036854775807:=by omega
 have f2:(Ta++Tb).size+Tc.size<=9223372036854775807:=by rw[ByteArray.size_append];omega
 have f3:(Ta++Tb++Tc).size+TT.size<=9223372036854775807:=by rw[ByteArray.size_append,ByteArray.size_append];omega
 clear hso hown1 hb1 hr1 hok hpk hpr hsz HS hT HPU;go_wp2_with fail
 refine(HPa.out _).mono ?_;rintro e2 w2 ⟨rfl,hb2⟩;have HB2:=Lib.hid (ext_trans HB1.out hb2);have HR2:=Lib.hid (HR1.out.ext hb2);clear hb2;go_wp2_with fail
 refine(HPb.out _).mono ?_;rintro e3 w3 ⟨rfl,hb3⟩;have HB3:=Lib.hid (ext_trans HB2.out hb3);have HR3:=Lib.hid (HR2.out.ext hb3);clear hb3;go_wp2_with fail
 refine(HPc.out _).mono ?_;rintro e4 w4 ⟨rfl,hb4⟩;have HB4:=Lib.hid (ext_trans HB3.out hb4);have HR4:=Lib.hid (HR3.out.ext hb4);clear hb4;go_wp2_with fail
 refine(HE.out A1 c1 w4 HR4.out).mono ?_;rintro e5 w5 ⟨rfl,hb5⟩;have HB5:=Lib.hid (ext_trans HB4.out hb5);clear hb5;go_wp2_with fail
 go_ret2
 exact⟨arr,HSO.out,by rw[HPP.out,<-HPK.out];rfl,HB5.out⟩
end Rf
end Go.Proofs.YtjligbmickfbdaaGreat
namespace Go.Proofs.YtjligbmickfbdaaGreat
namespace Bk
open Vi Sq Rd
def at3 (l:List (Int×Int×ByteArray)) (k:Nat):Int×Int×ByteArray:=l.getD k (0,0,⟨#[]⟩)
def isP (l:List (Int×Int×ByteArray)) (A:List Nat):Bool:=decide ((packed (joinB l) A).length<(joinB l).length)
def body (l:List (Int×Int×ByteArray)) (A:List Nat):List UInt8:=if isP l A=true then packed (joinB l) A else joinB l
def mode (l:List (Int×Int×ByteArray)) (A:List Nat):Nat:=if isP l A=true then 1 else 0
def hd5 (l:List (Int×Int×ByteArray)):List Nat:=[(joinB l).length,l.length,(at3 l 0).1.toNat,(at3 l 0).2.1.toNat,((at3 l (l.length-1)).2.1-(at3 l 0).2.1).toNat]
def blk (l:List (Int×Int×ByteArray)) (A:List Nat):List UInt8:=UInt8.ofNat (mode l A)::((hd5 l).flatMap putV++body l A)
def encE (l:List (Int×Int×ByteArray)):Int:=if l=[] then 2 else jE l
def lateOf (early more:Nat):Nat:=if more<=1000000000/\early<=1000000000 then early+more else 9223372036854775807
def mayH (md raw count first early late:Nat):Bool:=decide (md<=1/\raw<=20000/\1<=count/\count<=raw/\1<=first/\first+count<=1000000001/\early<=1000000000/\late<=1000000000)
def peekB:List UInt8->Option (Nat×Nat×Nat×Nat×Nat×Nat×List UInt8)
 | []=>none
 |m::b=>match fin 5 [] b with
  |(0,[raw,count,first,early,more],r)=>if mayH m.toNat raw count first early (lateOf early more)=true then some (m.toNat,raw,count,first,early,lateOf early more,r) else none
  |_=>none
def rawB (md raw:Nat) (b:List UInt8):Option (List UInt8):=match (if md=1 then unS b else some b) with
 |none=>none
 |some s=>if s.length≠raw then none else some s
def fits (l:List (Int×Int×ByteArray)) (count first early late:Nat):Bool:=decide (l.length=count/\(at3 l 0).1=first/\(at3 l 0).2.1=early/\(at3 l (l.length-1)).2.1=late)
def dec (b:List UInt8):Option (List (Int×Int×ByteArray)):=match peekB b with
 |none=>none
 |some (md,raw,count,first,early,late,r)=>match rawB md raw r with
  |none=>none
  |some s=>match split s with
   |none=>none
   |some l=>if fits l count first early late=true then some l else none
theorem row_seq:∀(l:List (Int×Int×ByteArray)) (p:Int×Int×ByteArray),rowE (some p) l=0-> ∀(k:Nat) (r:Int×Int×ByteArray),l[k]? =some r->r.1=p.1+(k:Int)+1/\p.2.1<=r.2.1/\ok1 r=true/\ ∀(j:Nat) (r':Int×Int×ByteArray),k<=j->l[j]? =some r'->r.2.1<=r'.2.1
 | [],_,_,k,r,h=>by simp at h
 |x::l,p,h,k,r,hk=>by
  rw[rowE] at h;split at h;·simp at h
  rename_i ho
  split at h;·simp at h
  rename_i hf
  have ho:ok1 x=true:=by simpa using ho
  have hx:x.1=p.1+1/\p.2.1<=x.2.1:=by
   simp only[off,decide_eq_true_eq] at hf;omega
  have ih:=row_seq l x h;rcases k with _|k
  ·simp at hk;subst hk
   refine⟨by simp;omega,hx.2,ho,?_⟩;intro j r' _ hj;rcases j with _|j
   ·simp at hj;subst hj;exact Int.le_refl _
   ·exact(ih j r' (by simpa using hj)).2.1
  ·obtain⟨h1,h2,h3,h4⟩:=ih k r (by simpa using hk)
   refine⟨by rw[h1,hx.1];push_cast;omega,by omega,h3,?_⟩;intro j r' hkj hj;obtain⟨j,rfl⟩:∃i,j=i+1:=⟨j-1,by omega⟩
   exact h4 j r' (by omega) (by simpa using hj)
theorem row_seq0 (l:List (Int×Int×ByteArray)) (h:rowE none l=0) (k:Nat) (r:Int×Int×ByteArray) (hk:l[k]? =some r) :
  r.1=(at3 l 0).1+(k:Int)/\(at3 l 0).2.1<=r.2.1/\ok1 r=true/\ ∀(j:Nat) (r':Int×Int×ByteArray),k<=j->l[j]? =some r'->r.2.1<=r'.2.1:=by
 rcases l with _|⟨x,l⟩
 ·simp at hk
 rw[rowE] at h;split at h;·simp at h
 rename_i ho
 split at h;·simp at h
 have ho:ok1 x=true:=by simpa using ho
 have e:at3 (x::l) 0=x:=rfl;rw[e];have ih:=row_seq l x h;rcases k with _|k
 ·simp at hk;subst hk
  refine⟨by simp,Int.le_refl _,ho,?_⟩;intro j r' _ hj;rcases j with _|j
  ·simp at hj;subst hj;exact Int.le_refl _
  ·exact(ih j r' (by simpa using hj)).2.1
 ·obtain⟨h1,h2,h3,h4⟩:=ih k r (by simpa using hk)
  refine⟨by rw[h1];push_cast;omega,h2,h3,?_⟩;intro j r' hkj hj;obtain⟨j,rfl⟩:∃i,j=i+1:=⟨j-1,by omega⟩
  exact h4 j r' (by omega) (by simpa using hj)
theorem at3_get (l:List (Int×Int×ByteArray)) (k:Nat) (h:k<l.length):l[k]? =some (at3 l k):=by
 unfold at3;rw[List.getD_eq_getElem?_getD,List.getElem?_eq_getElem h];rfl
theorem joinB_ge:∀(l:List (Int×Int×ByteArray)),3*l.length<=(joinB l).length
 | []=>by simp
 |r::l=>by
  have e:joinB (r::l)=recB r++joinB l:=List.flatMap_cons ..;have:=recB_length r;have:=joinB_ge l;rw[e,List.length_append,List.length_cons];omega
theorem jE_row {l:List (Int×Int×ByteArray)} (h:jE l=0):rowE none l=0/\(joinB l).length<=20000:=by
 unfold jE at h;split at h
 ·rename_i h1;exact absurd h h1
 split at h;·simp at h
 rename_i h1 h2
 exact⟨by simpa using h1,by omega⟩
theorem ends {l:List (Int×Int×ByteArray)} (h:jE l=0) (hn:l≠ []) :
  1<=(at3 l 0).1/\(at3 l 0).1+l.length<=1000000001/\0<=(at3 l 0).2.1/\(at3 l 0).2.1<=(at3 l (l.length-1)).2.1/\(at3 l (l.length-1)).2.1<=1000000000/\l.length<=6667:=by
 obtain⟨h1,h2⟩:=jE_row h;have hp:0<l.length:=List.length_pos_iff.2 hn;have h3:=joinB_ge l;obtain⟨a1,a2,a3,a4⟩:=row_seq0 l h1 0 _ (at3_get l 0 hp);obtain⟨b1,b2,b3,b4⟩:=row_seq0 l h1 (l.length-1) _ (at3_get l (l.length-1) (by omega));rw[ok1_iff] at a3 b3;refine⟨a3.1,?_,a3.2.2.1,b2,b3.2.2.2.1,by omega⟩;have:=b3.2.1;omega
theorem hd5_lt {l:List (Int×Int×ByteArray)} (h:jE l=0) (hn:l≠ []):∀n∈hd5 l,n<9223372036854775808:=by
 obtain⟨e1,e2,e3,e4,e5,e6⟩:=ends h hn;obtain⟨h1,h2⟩:=jE_row h;intro n hm;simp only[hd5,List.mem_cons,List.not_mem_nil,or_false] at hm;omega
theorem fin_flat:∀(l acc:List Nat) (r:List UInt8),(∀n∈l,n<9223372036854775808)->fin l.length acc (l.flatMap putV++r)=(0,acc++l,r)
 | [],acc,r,_=>by simp[fin]
 |n::l,acc,r,h=>by
  rw[List.flatMap_cons,List.append_assoc,List.length_cons,fin_put n (h n (List.mem_cons_self ..)),fin_flat l _ r (fun x hx=>h x (List.mem_cons_of_mem _ hx))];simp
theorem mode_le (l:List (Int×Int×ByteArray)) (A:List Nat):mode l A<=1:=by unfold mode;split<;>omega
theorem peek_blk {l:List (Int×Int×ByteArray)} (A:List Nat) (h:jE l=0) (hn:l≠ []) :
  peekB (blk l A)=some (mode l A,(joinB l).length,l.length,(at3 l 0).1.toNat,(at3 l 0).2.1.toNat,(at3 l (l.length-1)).2.1.toNat,body l A):=by
 obtain⟨e1,e2,e3,e4,e5,e6⟩:=ends h hn;obtain⟨h1,h2⟩:=jE_row h;have hp:0<l.length:=List.length_pos_iff.2 hn;have hm:=mode_le l A;have h3:=joinB_ge l;have hf:=fin_flat (hd5 l) [] (body l A) (hd5_lt h hn);have h5:(hd5 l).length=5:=rfl;rw[h5,List.nil_append] at hf;unfold blk;simp only[peekB,hf];simp only[hd5];have hl:lateOf (at3 l 0).2.1.toNat ((at3 l (l.length-1)).2.1-(at3 l 0).2.1).toNat=(at3 l (l.length-1)).2.1.toNat:=by
  unfold lateOf;rw[if_pos (by omega)];omega
 rw[hl,toNat_ofNat _ (by omega),if_pos];unfold mayH;simp only[decide_eq_true_eq];omega
theorem raw_blk {l:List (Int×Int×ByteArray)} {A:List Nat} (h:jE l=0) (hA:Sx.Sorted (joinB l) A):rawB (mode l A) (joinB l).length (body l A)=some (joinB l):=by
 obtain⟨h1,h2⟩:=jE_row h;unfold rawB mode body;by_cases hp:isP l A=true
 ·rw[if_pos hp,if_pos hp,if_pos rfl,back hA h2];simp
 ·rw[if_neg hp,if_neg hp,if_neg (by decide)];simp
theorem dec_blk {l:List (Int×Int×ByteArray)} {A:List Nat} (h:jE l=0) (hn:l≠ []) (hA:Sx.Sorted (joinB l) A):dec (blk l A)=some l:=by
 obtain⟨e1,e2,e3,e4,e5,e6⟩:=ends h hn;unfold dec;rw[peek_blk A h hn];simp only;rw[raw_blk h hA];simp only;rw[split_join l h];simp only;rw[if_pos];unfold fits;simp only[decide_eq_true_eq];refine⟨trivial,by omega,by omega,by omega⟩
theorem dec_some {b:List UInt8} {l:List (Int×Int×ByteArray)} (h:dec b=some l):jE l=0/\l≠ []:=by
 unfold dec at h;split at h;·simp at h
 rename_i md raw count first early late r hp
 split at h;·simp at h
 split at h;·simp at h
 rename_i s hs l' hl'
 split at h
 ·rename_i hf
  simp only[Option.some.injEq] at h;subst h;refine⟨(split_some _ _ hl').2,?_⟩;rintro rfl;simp only[fits,decide_eq_true_eq] at hf;unfold peekB at hp;split at hp;·simp at hp
  split at hp
  ·split at hp
   ·rename_i hm
    simp only[Option.some.injEq,Prod.mk.injEq] at hp;simp only[mayH,decide_eq_true_eq] at hm;have:=hf.1;simp at this
    omega
   ·simp at hp
  ·simp at hp
 ·simp at h
theorem blk_len {l:List (Int×Int×ByteArray)} {A:List Nat} (h:jE l=0) (hn:l≠ []):(blk l A).length<=(joinB l).length+26:=by
 obtain⟨e1,e2,e3,e4,e5,e6⟩:=ends h hn;obtain⟨h1,h2⟩:=jE_row h;have l1:=length_putV_le (joinB l).length 2 (by omega);have l2:=length_putV_le l.length 2 (by omega);have l3:=length_putV_le (at3 l 0).1.toNat 4 (by omega);have l4:=length_putV_le (at3 l 0).2.1.toNat 4 (by omega);have l5:=length_putV_le ((at3 l (l.length-1)).2.1-(at3 l 0).2.1).toNat 4 (by omega);have hb:(body l A).length<=(joinB l).length:=by
  unfold body;split
  ·rename_i hp
   simp only[isP,decide_eq_true_eq] at hp;omega
  ·exact Nat.le_refl _
 unfold blk hd5;simp only[List.length_cons,List.length_append,List.flatMap_cons,List.flatMap_nil,List.length_nil];omega
theorem enc_ok {l:List (Int×Int×ByteArray)} (h:encE l=0):jE l=0/\l≠ []:=by
 unfold encE at h;split at h;·simp at h
 exact⟨h,by assumption⟩
end Bk
end Go.Proofs.YtjligbmickfbdaaGreat
namespace Go.Proofs.YtjligbmickfbdaaGreat
namespace Bk
open Go.RowKit Vi Sq Rd
section
variable {ops:Array Oper} {rest:List Oper} {o:Oper} {a:Act} {Q:Exit->Act->World->Prop}
theorem appendS {s x:Operand} {B:Nat} {v:Value} {l:List UInt8} {w0:World} (d:ByteArray) (hown:OwnB w0 B v l) (hl:l.length+d.size<=1099511627776) (hB:B<=w0.heap.size)
  (h:∀A' n' c' w',Hid (n'=l.length+d.size)->OwnB w' B (.slice A' n' c') (l++d.data.toList)->Below B w0 w'->w0.grownBy w' v.ownBlock->wpList Tryz.prog ops Q rest (a.put o.dst (.slice A' n' c')) w')
  (hgd:o.guard=none:=by exact rfl) (ho:o.op=.call { callee:=.builtin .append,args:=#[s,x],argTypes:=#[65,9] }:=by exact rfl)
  (hs:a.eval s=v:=by exact rfl) (hx:a.eval x=.string d:=by exact rfl) :
  wpList Tryz.prog ops Q (o::rest) a w0:=by
 obtain⟨i0,hi,hz0,hz1,hz2⟩:=info_parts byte_info;refine Lib.wpList_append_own_string _ hgd s x 65 9 ho B 5 i0 Tryz.underlying65 Tryz.underlying9 hi hz0 hz1 hz2 v l.length (bv l) hs hown d hx (by simp only[maxLen];omega) (by omega) hB ?_;intro v' w' hown' hg _;have hlt:=World.ownsRow.lt hown;obtain⟨A',c',rfl,_,_⟩:=own_slice hown';refine h A' _ c' w' rfl ?_ ((Below.refl _ _).grown hg hB (fun k hk=>(hlt k hk).1)) hg;unfold OwnB;rw[bv_append,List.length_append];exact hown'
end
theorem ownB_lit (w:World) (m:UInt8):OwnB (w.alloc (.cells #[.int .u8 (m.toNat:Int)] 5)) w.heap.size (.slice (some ⟨w.heap.size,0,none⟩) 1 1) [m] :=
 ⟨rfl,.inr ⟨w.heap.size,1,_,rfl,Nat.le_refl _,heap_alloc_new w _,Nat.le_refl _,by unfold maxLen;decide,rfl,rfl⟩⟩
def EncAns (l:List (Int×Int×ByteArray)) (e:Ending):Prop:=∃S:ByteArray,e=.returned (.tuple #[.string S,.int .i64 (encE l)])/\(encE l≠0->S=⟨#[]⟩)/\(encE l=0-> ∃arr,Sx.Sorted (joinB l) arr/\S=⟨(blk l arr).toArray⟩)
set_option maxHeartbeats 6400000 in
set_option maxRecDepth 100000 in
theorem enc_err (A:Option Addr) (n c:Nat) (l:List (Int×Int×ByteArray)) (w:World) (hrd:Rd w w.heap.size 3 A n (fl3 l)) (hn:n<=100000) (hne:encE l≠0) :
  Calls Tryz.prog 14 #[.slice A n c] w fun e w'=>EncAns l e/\Below w.heap.size w w':=by
 have mixed:Tryz.prog.follows .mixedOrders=true:=by kernel_rfl
 have hln:=rd3_len hrd;by_cases hl:l=[]
 ·have hE:encE l=2:=if_pos hl
  have HE:=Lib.hid hE;obtain rfl:n=0:=by rw[<-hln,hl];rfl
  clear hrd hl hln hE hne
  go_enter Tryz.func14, Tryz.ntmps14
  go_wp2_with fail
  go_ret2
  exact⟨⟨⟨#[]⟩,by rw[HE.out];rfl,fun _=>rfl,fun h=>absurd (HE.out.symm.trans h) (by decide)⟩,Below.refl _ _⟩
 ·have hE:encE l=jE l:=if_neg hl
  rw[hE] at hne;have HE:=Lib.hid hE;have hJ:=join_any A n c l w hrd (by omega);rw[jS_no hne] at hJ;have hn0:0<n:=by rw[<-hln];exact List.length_pos_iff.2 hl
  have hn1:((n:Int)==0)=false:=by rw[beq_eq_false_iff_ne];omega
  generalize jE l=x at *
  have HJ:=Lib.hid hJ;have hx1:(x != 0)=true:=by rw[bne_iff_ne];exact hne
  have hx2:(x==0)=false:=by rw[beq_eq_false_iff_ne];exact hne
  clear hJ hrd hE hl hln
  go_enter Tryz.func14, Tryz.ntmps14
  go_wp2_with fail
  refine HJ.out.mono ?_;rintro e1 w1 ⟨rfl,hb1⟩;have HB:=Lib.hid hb1;clear hb1;go_wp2_with fail
  go_ret2
  exact⟨⟨⟨#[]⟩,by rw[HE.out];rfl,fun _=>rfl,fun h=>absurd (HE.out.symm.trans h) hne⟩,HB.out⟩
end Bk
end Go.Proofs.YtjligbmickfbdaaGreat
