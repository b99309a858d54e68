/- scan.Load, where the block stands. scan: Tail at any header; Sealed. seg: Trim, where a tail is cut off. seg: Create where there is such a file; Create with a header that may not be; Size. seg: Read, Sync. strings.Builder beside other memory of the call's own: WriteString, String turn only what is the builder's. seg: laid. seg: laid, the walk. seg: Write, its steps. seg: Write. seg: Write, the walk. SegKeeps: what its parts come to, plainly. SegKeeps: a footer is short. -/
import Derived.Test.YtlnbjikooadmoaaGreatKe53
import Derived.Test.YtlnbjikooadmoaaGreatKe52
import Derived.Deep.Cut
import Derived.Test.YtlnbjikooadmoaaGreatKe50
import Derived.Test.YtlnbjikooadmoaaGreatKe49
import Derived.Test.YtlnbjikooadmoaaGreatKe48
import Derived.Deep.LoopGhost
import Derived.BigQuiet
namespace Go.Proofs.YtlnbjikooadmoaaGreat
namespace Sn
open Go.RowKit Hd Fm Bk Rd
def Stands (s:ByteArray) (m:Mt) (R:List (Int×Int×ByteArray)):Prop:=GF s m.a/\metaF (fr s m.a)=some m/\dec (fbody s m.a).data.toList=some R
theorem get_yes (s:ByteArray) (p:Nat) (w:World) (hs:s.size<=1000000) (hp:p<=2000000) (h:GF s p) :
  Calls Tryz.prog 42 #[.string s,.int .i64 (p:Int)] w fun e w'=>e=.returned (.tuple #[fagg (by4 s.data.toList p) (fbody s p) p (fto s p),.int .i64 0])/\Below w.heap.size w w':=by
 refine(Get_any s p w hs hp).mono ?_
 rintro e w' ⟨⟨-,rfl⟩|⟨hn,-⟩,hb⟩
 ·exact⟨rfl,hb⟩
 ·exact absurd h hn
theorem meta_yes (k:Nat) (b:ByteArray) (p t:Nat) (m:Mt) (w:World) (hb:b.size<=1000000) (hp:p<=t) (ht:t<=1000000000) (h:metaF (k,b,p,t)=some m) :
  Calls Tryz.prog 91 #[fagg k b p t] w fun e w'=>e=.returned (.tuple #[mv m,.bool true])/\Below w.heap.size w w':=by
 refine(meta_any k b p t w hb hp ht).mono ?_
 rintro e w' ⟨⟨m',h',rfl⟩|⟨h',-⟩,hb⟩
 ·rw[h] at h';cases h';exact⟨rfl,hb⟩
 ·rw[h] at h';cases h'
theorem dec_own (s:ByteArray) (l:List (Int×Int×ByteArray)) (w:World) (hs:s.size<=1000000) (h:dec s.data.toList=some l) :
  Calls Tryz.prog 92 #[.string s] w fun e w'=>(∃v,e=.returned (.tuple #[v,.int .i64 0])/\Own3 w' w.heap.size v l)/\Below w.heap.size w w':=by
 refine(Decode_any s w hs).mono ?_
 rintro e w' ⟨⟨l',v,hl,rfl,hown⟩|⟨hl,-⟩,hb⟩
 ·rw[h] at hl;cases hl;exact⟨⟨v,rfl,hown⟩,hb⟩
 ·rw[h] at hl;cases hl
set_option maxHeartbeats 6400000 in
set_option maxRecDepth 100000 in
theorem load_ok (s:ByteArray) (m:Mt) (R:List (Int×Int×ByteArray)) (w:World) (hs:s.size<=1000000) (h:Stands s m R) :
  Calls Tryz.prog 43 #[.string s,mv m] w fun e w'=>(∃v,e=.returned (.tuple #[v,.int .i64 0])/\Own3 w' w.heap.size v R)/\Below w.heap.size w w':=by
 have mixed:Tryz.prog.follows .mixedOrders=true:=by kernel_rfl
 obtain⟨hg,hm,hd⟩:=h
 have hgt:=GF_to hg
 obtain⟨k2,ka,ks,-⟩:=metaF_some hm
 have hbs:(fbody s m.a).size<=1000000:=by unfold fbody;rw[ByteArray.size_extract];omega
 have HGE:=Lib.hid (fun w=>get_yes s m.a w hs (by omega) hg)
 have HME:=Lib.hid (fun w=>meta_yes _ _ _ _ m w hbs (by omega) (by omega) hm)
 have HDE:=Lib.hid (fun w=>dec_own (fbody s m.a) R w hbs hd)
 have hk:by4 s.data.toList m.a=2:=k2
 have hsz:m.s=fto s m.a-m.a:=ks
 have hs2:IntKind.i64.wrap ((fto s m.a:Int)-(m.a:Int))=(m.s:Int):=by rw[IntKind.wrap_i64];omega
 have HB:=Lib.hid (ext_alloc w (.cells #[.int .i64 m.a,.int .i64 m.s,.int .i64 m.r,.int .i64 m.c,.int .i64 m.f,.int .i64 m.e,.int .i64 m.l] 39))
 have HM:=Lib.hid (show Mb (w.alloc (.cells #[.int .i64 m.a,.int .i64 m.s,.int .i64 m.r,.int .i64 m.c,.int .i64 m.f,.int .i64 m.e,.int .i64 m.l] 39)) w.heap.size m.a m.s m.r m.c m.f m.e m.l from heap_alloc_new w _)
 rw[hk] at HGE
 unfold mv magg fagg at HME
 rw[hk] at HME
 unfold fagg at HGE
 generalize fto s m.a=T at *
 generalize fbody s m.a=BD at *
 obtain⟨ma,ms,mr,mc,mf,me,ml⟩:=m
 dsimp only at *
 unfold mv magg
 dsimp only
 clear hg hm hd k2 ka ks hk hsz hgt
 go_enter Tryz.func43, Tryz.ntmps43
 go_wp2_with fail
 have a0:=HM.out.c0
 generalize w.alloc (.cells #[.int .i64 ma,.int .i64 ms,.int .i64 mr,.int .i64 mc,.int .i64 mf,.int .i64 me,.int .i64 ml] 39)=w0 at *
 go_wp2_with fail
 refine(HGE.out _).mono ?_
 rintro e1 w1 ⟨rfl,hb1⟩
 have HB1:=Lib.hid (HB.out.trans (hb1.mono HB.out.size))
 have HM1:=Lib.hid (HM.out.below hb1 HM.out.lt)
 have HB2:=Lib.hid (HB1.out.trans ((ext_alloc w1 (.cells #[.int .i64 2,.string BD,.int .i64 ma,.int .i64 T] 92)).mono HB1.out.size))
 have HM2:=Lib.hid (HM1.out.below (ext_alloc w1 (.cells #[.int .i64 2,.string BD,.int .i64 ma,.int .i64 T] 92)) HM1.out.lt)
 have HF2:=Lib.hid (show Fb (w1.alloc (.cells #[.int .i64 2,.string BD,.int .i64 ma,.int .i64 T] 92)) w1.heap.size 2 BD ma T from heap_alloc_new w1 _)
 clear hb1 a0
 go_upto_region 2 with (fail)
 generalize w1.alloc (.cells #[.int .i64 2,.string BD,.int .i64 ma,.int .i64 T] 92)=w2 at *
 have q0:=HF2.out.c0
 have q1:=HF2.out.c1
 have q2:=HF2.out.c2
 have q3:=HF2.out.c3
 have a1:=HM2.out.c1
 go_wp2_with fail
 refine(HDE.out _).mono ?_
 rintro e3 w3 ⟨⟨v3,rfl,hown3⟩,hb3⟩
 have HF3:=Lib.hid (HF2.out.below hb3 HF2.out.lt)
 have HM3:=Lib.hid (HM2.out.below hb3 HM2.out.lt)
 have HB3:=Lib.hid (HB2.out.trans (hb3.mono HB2.out.size))
 have HO3:=Lib.hid hown3
 have HZ:=Lib.hid HB2.out.size
 clear hb3 q0 q1 q2 q3 a1 hown3
 have q0:=HF3.out.c0
 have q1:=HF3.out.c1
 have q2:=HF3.out.c2
 have q3:=HF3.out.c3
 go_wp2_with fail
 refine(HME.out _).mono ?_
 rintro e4 w4 ⟨rfl,hb4⟩
 have HM4:=Lib.hid ((HM3.out.below hb4 HM3.out.lt).below (ext_alloc w4 (.cells #[.int .i64 ma,.int .i64 ms,.int .i64 mr,.int .i64 mc,.int .i64 mf,.int .i64 me,.int .i64 ml] 39)) (Nat.lt_of_lt_of_le HM3.out.lt hb4.size))
 have HB4:=Lib.hid ((HB3.out.trans (hb4.mono HB3.out.size)).trans ((ext_alloc w4 (.cells #[.int .i64 ma,.int .i64 ms,.int .i64 mr,.int .i64 mc,.int .i64 mf,.int .i64 me,.int .i64 ml] 39)).mono (Nat.le_trans HB3.out.size hb4.size)))
 have HO4:=Lib.hid ((HO3.out.below hb4 (Nat.le_refl _)).below (ext_alloc w4 (.cells #[.int .i64 ma,.int .i64 ms,.int .i64 mr,.int .i64 mc,.int .i64 mf,.int .i64 me,.int .i64 ml] 39)) (Nat.le_refl _))
 have HN4:=Lib.hid (show Mb (w4.alloc (.cells #[.int .i64 ma,.int .i64 ms,.int .i64 mr,.int .i64 mc,.int .i64 mf,.int .i64 me,.int .i64 ml] 39)) w4.heap.size ma ms mr mc mf me ml from heap_alloc_new w4 _)
 clear hb4 q0 q1 q2 q3
 go_upto_region 10 with (fail)
 generalize w4.alloc (.cells #[.int .i64 ma,.int .i64 ms,.int .i64 mr,.int .i64 mc,.int .i64 mf,.int .i64 me,.int .i64 ml] 39)=w5 at *
 have q0:=HM4.out.c0
 have q1:=HM4.out.c1
 have q2:=HM4.out.c2
 have q3:=HM4.out.c3
 have q4:=HM4.out.c4
 have q5:=HM4.out.c5
 have q6:=HM4.out.c6
 have r0:=HN4.out.c0
 have r1:=HN4.out.c1
 have r2:=HN4.out.c2
 have r3:=HN4.out.c3
 have r4:=HN4.out.c4
 have r5:=HN4.out.c5
 have r6:=HN4.out.c6
 go_wp2_with fail
 go_ret2
 exact⟨⟨v3,rfl,HO4.out.lower HZ.out⟩,HB4.out⟩
end Sn
end Go.Proofs.YtlnbjikooadmoaaGreat
namespace Go.Proofs.YtlnbjikooadmoaaGreat
namespace Sn
open Go.RowKit Hd Fm Bk
theorem tail_any (s:ByteArray) (i g f:Int) (w:World) (hs:s.size<=1000000) :
  Calls Tryz.prog 40 #[.string s,.agg #[.int .i64 i,.int .i64 g,.int .i64 f]] w fun e w'=>TlAns s i g f w e w'/\Below w.heap.size w w':=by
 by_cases h:okH i g f=true/\preB s (hdrB i.toNat g.toNat f.toNat)=true
 ·obtain⟨h1,h2⟩:=h
  have hh:1<=i/\i<=999999/\1<=g/\g<=999999/\1<=f/\f<=1000000000:=by simpa[okH] using h1
  obtain⟨i',rfl⟩:∃n:Nat,i=n:=⟨i.toNat,by omega⟩
  obtain⟨g',rfl⟩:∃n:Nat,g=n:=⟨g.toNat,by omega⟩
  obtain⟨f',rfl⟩:∃n:Nat,f=n:=⟨f.toNat,by omega⟩
  exact tail_yes s i' g' f' w hs (by omega) (by simpa using h2)
 ·exact tail_no s i g f w (by unfold tl;rw[if_neg h])
theorem tl_some {s:ByteArray} {i g f:Int} {L:List Mt} {E:Nat} (h:tl s i g f=some (L,E)) :
  ∃f' e0:Nat,f=f'/\1<=f'/\f'<=1000000000/\e0=(hdrB i.toNat g.toNat f.toNat).size/\e0<=s.size/\Sn.rn f' s [] e0=(L,E)/\St e0 s L E/\RowSt f' s L/\E<=s.size/\okBl L=true:=by
 unfold tl at h
 split at h
 ·rename_i hc
  obtain⟨h1,h2⟩:=hc
  have hh:1<=i/\i<=999999/\1<=g/\g<=999999/\1<=f/\f<=1000000000:=by simpa[okH] using h1
  have hr:=Option.some.inj h
  have hz:=pre_size h2
  have s1:=St_rn f.toNat _ s [] _ (St_nil (hdrB i.toNat g.toNat f.toNat).size s)
  have s2:=Row_rn f.toNat s [] (hdrB i.toNat g.toNat f.toNat).size (Row_nil f.toNat s)
  obtain⟨l2,-,-,p3⟩:=rn_pre f.toNat s [] (hdrB i.toNat g.toNat f.toNat).size
  rw[hr] at s1 s2 p3
  refine⟨f.toNat,_,by omega,by omega,by omega,rfl,hz,hr,s1,s2,p3 hz,?_⟩
  unfold okBl
  rw[s1.1,decide_eq_true s1.2.1];rfl
 ·cases h
theorem St_stands {e0 E:Nat} {s:ByteArray} {L:List Mt} (h:St e0 s L E):∀m∈L,∃R,Stands s m R:=fun m hm=>by
 obtain⟨h1,h2,R,h3⟩:=h.2.2.2.2 m hm
 exact⟨R,h1,h2,h3⟩
def Slx (s:ByteArray) (L:List Mt) (E:Nat):Prop:=L≠ []/\GF s E/\fr s E=(3,ftB L,E,s.size)
def SlAns (s:ByteArray) (i g f:Int) (w:World) (e:Ending) (w':World):Prop :=
 (∃L E v,tl s i g f=some (L,E)/\Slx s L E/\e=.returned (.tuple #[v,.int .i64 0])/\OwnM w' w.heap.size v L) ∨
 (∃L E,tl s i g f=some (L,E)/\ ¬ Slx s L E/\e=.returned (.tuple #[.slice none 0 0,.int .i64 211])) ∨
 (tl s i g f=none/\e=.returned (.tuple #[.slice none 0 0,.int .i64 210]))
set_option maxHeartbeats 6400000 in
set_option maxRecDepth 100000 in
theorem sealed_any (s:ByteArray) (i g f:Int) (w:World) (hs:s.size<=1000000) :
  Calls Tryz.prog 13 #[.string s,.agg #[.int .i64 i,.int .i64 g,.int .i64 f]] w fun e w'=>SlAns s i g f w e w'/\Below w.heap.size w w':=by
 have mixed:Tryz.prog.follows .mixedOrders=true:=by kernel_rfl
 have HT:=Lib.hid (fun w=>tail_any s i g f w hs)
 have HB:=Lib.hid (ext_alloc w (.cells #[.int .i64 i,.int .i64 g,.int .i64 f] 33))
 go_enter Tryz.func13, Tryz.ntmps13
 go_wp2_with fail
 generalize w.alloc (.cells #[.int .i64 i,.int .i64 g,.int .i64 f] 33)=w0 at *
 refine(HT.out _).mono ?_
 rintro e1 w1 ⟨ha,hb1⟩
 have HB1:=Lib.hid (HB.out.trans (hb1.mono HB.out.size))
 rcases ha with ⟨L,E,v,hl,rfl,hown⟩|⟨hl,rfl⟩
 ·obtain⟨f',e0,rfl,-,-,-,-,-,hst,-,hE,hok⟩:=tl_some hl
  obtain⟨A,c,rfl,-,-,hrd⟩:=hown.rd
  have HL:=Lib.hid hl
  have HRD:=Lib.hid hrd
  have hlen:=(okBl_row hok).1
  have HFO:=Lib.hid (foot_any A L.length c L w1 hrd (by omega) hok)
  have HGE:=Lib.hid (fun w=>Get_any s E w hs (by omega))
  have HOW:=Lib.hid (hown.lower HB.out.size)
  obtain⟨n,hn⟩:∃n,L.length=n:=⟨_,rfl⟩
  rw[hn] at HFO HOW ⊢
  have HN:=Lib.hid hn
  clear hb1 hl hown hrd hst hok hn hlen
  go_wp2_with fail
  refine HFO.out.mono ?_
  rintro e2 w2 ⟨rfl,hb2⟩
  have HB2:=Lib.hid (HB1.out.trans (hb2.mono HB1.out.size))
  have HO2:=Lib.hid (HOW.out.below hb2 (Nat.le_refl _))
  clear hb2 HFO HOW
  go_wp2_with fail
  refine(HGE.out _).mono ?_
  rintro e3 w3 ⟨ha3,hb3⟩
  have HB3:=Lib.hid (HB2.out.trans (hb3.mono HB2.out.size))
  rcases ha3 with ⟨hg,rfl⟩|⟨hg,x,hx,rfl⟩
  ·have HFR:=Lib.hid (show fr s E=(by4 s.data.toList E,fbody s E,E,fto s E) from rfl)
   have HG:=Lib.hid hg
   generalize by4 s.data.toList E=K at *
   generalize fbody s E=BD at *
   generalize fto s E=T at *
   have HB4:=Lib.hid (HB3.out.trans ((ext_alloc w3 (.cells #[.int .i64 K,.string BD,.int .i64 E,.int .i64 T] 92)).mono HB3.out.size))
   have HO4:=Lib.hid ((HO2.out.below hb3 (Nat.le_refl _)).below (ext_alloc w3 (.cells #[.int .i64 K,.string BD,.int .i64 E,.int .i64 T] 92)) (Nat.le_refl _))
   have HF4:=Lib.hid (show Fb (w3.alloc (.cells #[.int .i64 K,.string BD,.int .i64 E,.int .i64 T] 92)) w3.heap.size K BD E T from heap_alloc_new w3 _)
   clear hb3 hg
   unfold fagg
   by_cases hn0:n=0
   ·subst hn0
    have HNO:=Lib.hid (show ¬ Slx s L E from fun h2=>h2.1 (List.length_eq_zero_iff.1 HN.out))
    go_wp2_with fail
    go_ret2
    exact⟨.inr (.inl ⟨L,E,HL.out,HNO.out,rfl⟩),HB4.out⟩
   ·go_upto_region 6 with (fail)
    generalize w3.alloc (.cells #[.int .i64 K,.string BD,.int .i64 E,.int .i64 T] 92)=w4 at *
    have q0:=HF4.out.c0
    have q1:=HF4.out.c1
    have q3:=HF4.out.c3
    by_cases hk:K=3
    ·by_cases hbd:BD=ftB L
     ·by_cases hT:T=s.size
      ·have HYE:=Lib.hid (show Slx s L E from⟨fun e=>hn0 (by rw[<-HN.out,e];rfl),HG.out,by rw[HFR.out,hk,hbd,hT]⟩)
       subst hk hbd hT
       have hbe:=beqL (ftB L) (ftB L) (r:=true) (decide_eq_true rfl)
       go_wp2_with fail
       go_ret2
       exact⟨.inl ⟨L,E,_,HL.out,HYE.out,rfl,HO4.out⟩,HB4.out⟩
      ·subst hk hbd
       have hT1:(T==s.size)=false:=by rw[beq_eq_false_iff_ne];exact hT
       have hT2:(T != s.size)=true:=by rw[bne_iff_ne];exact hT
       have hT3:((T:Int) != (s.size:Int))=true:=by rw[bne_iff_ne];omega
       have hT4:((T:Int)==(s.size:Int))=false:=by rw[beq_eq_false_iff_ne];omega
       have hT5: ¬ ((T:Int)=(s.size:Int)):=by omega
       have hbe:=beqL (ftB L) (ftB L) (r:=true) (decide_eq_true rfl)
       have HNO:=Lib.hid (show ¬ Slx s L E from fun h2=>hT (by have:=congrArg (fun x:Fr=>x.2.2.2) (HFR.out.symm.trans h2.2.2);exact this))
       go_wp2_with fail
       go_ret2
       exact⟨.inr (.inl ⟨L,E,HL.out,HNO.out,rfl⟩),HB4.out⟩
     ·subst hk
      have hbe:=beqL BD (ftB L) (r:=false) (decide_eq_false hbd)
      have HNO:=Lib.hid (show ¬ Slx s L E from fun h2=>hbd (by have:=congrArg (fun x:Fr=>x.2.1) (HFR.out.symm.trans h2.2.2);exact this))
      clear hbd
      go_wp2_with fail
      go_ret2
      exact⟨.inr (.inl ⟨L,E,HL.out,HNO.out,rfl⟩),HB4.out⟩
    ·skip
     have HNO:=Lib.hid (show ¬ Slx s L E from fun h2=>hk (by have:=congrArg (fun x:Fr=>x.1) (HFR.out.symm.trans h2.2.2);exact this))
     go_wp2_with fail
     go_ret2
     exact⟨.inr (.inl ⟨L,E,HL.out,HNO.out,rfl⟩),HB4.out⟩
  ·have HNO:=Lib.hid (show ¬ Slx s L E from fun h2=>hg h2.2.1)
   have HB4:=Lib.hid (HB3.out.trans ((ext_alloc w3 (.cells #[.int .i64 0,.string ⟨#[]⟩,.int .i64 0,.int .i64 0] 92)).mono HB3.out.size))
   clear hb3 hg
   unfold fagg
   by_cases hn0:n=0
   ·subst hn0
    go_wp2_with fail
    go_ret2
    exact⟨.inr (.inl ⟨L,E,HL.out,HNO.out,rfl⟩),HB4.out⟩
   ·go_wp2_with fail
    go_ret2
    exact⟨.inr (.inl ⟨L,E,HL.out,HNO.out,rfl⟩),HB4.out⟩
 ·have HNO:=Lib.hid hl
  clear hb1 hl
  go_wp2_with fail
  go_ret2
  exact⟨.inr (.inr ⟨HNO.out,rfl⟩),HB1.out⟩
end Sn
end Go.Proofs.YtlnbjikooadmoaaGreat
namespace Go.Proofs.YtlnbjikooadmoaaGreat
namespace Dk
open Go.RowKit Hd Fm Sn Bk Rd
section
variable {w w':World} {S:Nat->Prop} {bd gN gS:Nat} {v:Value} {D:DS}
set_option maxHeartbeats 1600000 in
theorem trim1_go (h:DiskAt w S bd D) {bS bE n:Nat} {i g f:Int} {s:ByteArray} (hS:Blk w bS (sgc bd i g f s) 77) (hE:Blk w bE #[.int .i64 (n:Int)] 3) {b:Nat} {p:ByteArray×ByteArray} (ho:D.off=false) (hl:lk s D.now=some b) (hp:D.fl b=some p) (h1:n<=p.2.size) :
  Calls Tryz.prog 61 #[.pointer (some ⟨bS,0,none⟩),.pointer (some ⟨bE,0,none⟩)] w fun e w'=>e=.returned (.int .i64 (opE D))/\ ∃S',DiskAt w' S' bd (opS false (setF b (p.1,p.2.extract 0 n)) D)/\Gr S w S' w':=by
 have HC:=Lib.hid (cut_go h (s:=s) ho hl hp h1)
 have k0:=hS.cell 0 (v:=.pointer (some ⟨bd,0,none⟩)) rfl
 have k4:=hS.cell 4 (v:=.string s) rfl
 have t0:=hE.cell 0 (v:=.int .i64 (n:Int)) rfl
 clear h hS hE ho hl hp h1
 go_enter Tryz.func61, Tryz.ntmps61
 go_wp2_with (go_at_call 62;refine HC.out.mono ?_;rintro e5 w5 ⟨rfl,S5,hD5,hG5⟩;have HD5:=Lib.hid (And.intro hD5 hG5);clear hD5 hG5)
 go_ret
 exact⟨rfl,S5,HD5.out⟩
def trimD (b:Nat) (p:ByteArray×ByteArray) (n:Nat) (D:DS):DS:=syncD b (p.2.extract 0 n) (setF b (p.1,p.2.extract 0 n) (tick D))
set_option maxHeartbeats 1600000 in
theorem trim_all (h:DiskAt w S bd D) (hc:Calm D) {bS bE gF n:Nat} {i g f:Int} {s:ByteArray} (hS:Blk w bS (sgc bd i g f s) 77) (hE:Blk w bE #[.int .i64 (n:Int)] 3)
  (hF:Blk w gF #[.func (.func 61) #[] #[.pointer (some ⟨bS,0,none⟩),.pointer (some ⟨bE,0,none⟩)],.func (.func 53) #[.agg (sgc bd i g f s)] #[]] 57)
  (nS: ¬ S bS) (nE: ¬ S bE) (nF: ¬ S gF) {b:Nat} {p:ByteArray×ByteArray} (hl:lk s D.now=some b) (hp:D.fl b=some p) (h1:n<=p.2.size) :
  Calls Tryz.prog 47 #[.slice (some ⟨gF,0,none⟩) 2 2] w fun e w'=>e=.returned (.int .i64 0)/\ ∃S',DiskAt w' S' bd (trimD b p n D)/\Gr S w S' w':=by
 let R:Nat->DS->Prop:=fun k D'=>match k with
  |0=>D'=D
  |1=>D'=setF b (p.1,p.2.extract 0 n) (tick D)
  |_=>D'=trimD b p n D
 refine(all_any [(61,#[],#[.pointer (some ⟨bS,0,none⟩),.pointer (some ⟨bE,0,none⟩)]),(53,#[.agg (sgc bd i g f s)],#[])]
  (some ⟨gF,0,none⟩) 2 2 w (fun k wx=>∃S' D',Gr S w S' wx/\DiskAt wx S' bd D'/\R k D') (fun _ _=>False) (by omega) ?_ ⟨S,D,Gr.refl _ _,h,rfl⟩ ?_ ?_).mono ?_
 ·rintro k wx ⟨S',D',g1,-⟩
  exact rd_blk (g1.blk hF nF)
 ·intro f' hf'
  simp only[List.mem_cons,List.not_mem_nil,or_false] at hf'
  rcases hf' with rfl|rfl
  ·exact enters_of Tryz.func61 (by kernel_rfl) rfl
  ·exact enters_of Tryz.func53 (by kernel_rfl) rfl
 ·intro k f' hf' wx hJ
  obtain⟨S',D',g1,hD,hR⟩:=hJ
  rcases k with _|_|k
  ·simp only[List.getElem?_cons_zero,Option.some.injEq] at hf'
   subst hf'
   obtain rfl:D'=D:=hR
   refine(trim1_go hD (g1.blk hS nS) (g1.blk hE nE) hc.off hl hp h1).mono ?_
   rintro e w2 ⟨rfl,S2,hD2,g2⟩
   refine⟨0,by rw[hc.e],.inl ⟨rfl,S2,_,g1.trans g2,hD2,?_⟩⟩
   rw[opS_calm hc];rfl
  ·simp only[List.getElem?_cons_succ,List.getElem?_cons_zero,Option.some.injEq] at hf'
   subst hf'
   obtain rfl:D'=setF b (p.1,p.2.extract 0 n) (tick D):=hR
   have c1:Calm (setF b (p.1,p.2.extract 0 n) (tick D)):=hc.tick.setF b _
   refine(ssync_go hD (b:=b) (p:=(p.1,p.2.extract 0 n)) c1.off hl (by show(if b=b then _ else _)=_;rw[if_pos rfl])).mono ?_
   rintro e w2 ⟨rfl,S2,hD2,g2⟩
   refine⟨0,by rw[c1.e],.inl ⟨rfl,S2,_,g1.trans g2,hD2,?_⟩⟩
   rw[opS_calm c1];rfl
  ·simp at hf'
 ·rintro e w' ⟨x,rfl,⟨rfl,S',D',g1,hD,hR⟩|⟨-,hF⟩⟩
  ·obtain rfl:D'=trimD b p n D:=hR
   exact⟨rfl,S',hD,g1⟩
  ·exact hF.elim
set_option maxHeartbeats 6400000 in
set_option maxRecDepth 100000 in
theorem Trim_cut (h:DiskAt w S bd D) (hc:Calm D) {i g f:Int} {b E:Nat} {L:List Mt} {p:ByteArray×ByteArray} (hh:okH i g f=true) (hl:lk (segN i g) D.now=some b) (hp:D.fl b=some p) (ht:tl p.2 i g f=some (L,E)) (hE:E<p.2.size) :
  Calls Tryz.prog 23 #[.pointer (some ⟨bd,0,none⟩),.agg #[.int .i64 i,.int .i64 g,.int .i64 f]] w fun e w'=>∃(A':Option Addr) (n' c':Nat),e=.returned (.tuple #[.slice A' n' c',.int .i64 (E:Int),.int .i64 0])/\OwnM w' w.heap.size (.slice A' n' c') L/\ ∃S',DiskAt w' S' bd (trimD b p E D)/\Gr S w S' w'/\ ∀j,(Value.slice A' n' c').ownBlock=some j-> ¬ S' j:=by
 have mixed:Tryz.prog.follows .mixedOrders=true:=by kernel_rfl
 have hbg:=h.fit.big b p hp
 have HO:=Lib.hid (fun w=>of_ok (bd:=bd) i g f w hh)
 have hrp:readP D (segN i g)=(p.2,0):=by
  unfold readP
  rw[hc.off,hl]
  simp[hp]
 have HRD:=Lib.hid (fun(wx:World) (hx:Below w.heap.size w wx)=>read_any (h.ext hx) (segN i g))
 rw[hrp] at HRD
 have HTL:=Lib.hid (fun wx=>(tail_any p.2 i g f wx hbg.2).mono (R':=fun e w'=>∃(A':Option Addr) (n' c':Nat),e=.returned (.tuple #[.slice A' n' c',.int .i64 (E:Int),.int .i64 0])/\OwnM w' wx.heap.size (.slice A' n' c') L/\Below wx.heap.size wx w') (by
  rintro e w' ⟨⟨L',E',v',hl',rfl,hown⟩|⟨hl',-⟩,hb⟩
  ·rw[ht] at hl'
   cases hl'
   obtain⟨A',c',rfl,-,-,-⟩:=hown.rd
   exact⟨A',_,c',rfl,hown,hb⟩
  ·rw[ht] at hl';cases hl'))
 have HN:=Lib.hid (show ∀k,w.heap.size<=k-> ¬ S k from fun k hk=>h.gt hk)
 have HA:=Lib.hid (show ∀(bS bE gF:Nat) (w1 w3:World),gF=w1.heap.size->Below w.heap.size w w1->Blk w1 bS (sgc bd i g f (segN i g)) 77->w.heap.size<=bS->Blk w1 bE #[.int .i64 (E:Int)] 3->w.heap.size<=bE ->
   w3=w1.alloc (.cells #[.func (.func 61) #[] #[.pointer (some ⟨bS,0,none⟩),.pointer (some ⟨bE,0,none⟩)],.func (.func 53) #[.agg (sgc bd i g f (segN i g))] #[]] 57) ->
   Calls Tryz.prog 47 #[.slice (some ⟨gF,0,none⟩) 2 2] w3 fun e w'=>e=.returned (.int .i64 0)/\ ∃S',DiskAt w' S' bd (trimD b p E D)/\Gr S w S' w'/\(∀j,w.heap.size<=j->j<w1.heap.size->w'.heap[j]? =w1.heap[j]? /\ ¬ S' j) from by
  rintro bS bE gF w1 w3 rfl hb1 hS hbS hE' hbE rfl
  have e2:=ext_alloc w1 (.cells #[.func (.func 61) #[] #[.pointer (some ⟨bS,0,none⟩),.pointer (some ⟨bE,0,none⟩)],.func (.func 53) #[.agg (sgc bd i g f (segN i g))] #[]] 57)
  have e3:=hb1.trans (e2.mono hb1.size)
  refine(trim_all (h.ext e3) hc (hS.ext e2) (hE'.ext e2) (Blk.new w1 _ _) (HN.out _ hbS) (HN.out _ hbE) (HN.out _ hb1.size) hl hp (by omega)).mono ?_
  rintro e w' ⟨rfl,S',q2,q3⟩
  refine⟨rfl,S',q2,(Gr.of_below e3).trans q3,fun j h1 h2=>⟨(q3.block j (Nat.lt_of_lt_of_le h2 e2.size) (HN.out _ h1)).trans (e2.block j h2),q3.out (Nat.lt_of_lt_of_le h2 e2.size) (HN.out _ h1)⟩⟩)
 clear h hc hh hl hp ht hbg hrp
 unfold sgc at *
 generalize segN i g=s at *
 have B2:=ext_alloc w (.cells #[.int .i64 i,.int .i64 g,.int .i64 f] 33)
 have B0:=Blk.new w #[.int .i64 i,.int .i64 g,.int .i64 f] 33
 go_enter Tryz.func23, Tryz.ntmps23
 go_wp2_with (first
  |(go_at_call 30;refine(HO.out _).mono ?_;rintro e1 w1 ⟨rfl,hb1⟩;have HW1:=Lib.hid (B2.trans (hb1.mono B2.size));have HB1:=Lib.hid ((B0.ext hb1).alloc (.cells #[.pointer (some ⟨bd,0,none⟩),.int .i64 i,.int .i64 g,.int .i64 f,.string s] 77));clear hb1 B2 B0;have HW2:=Lib.hid (HW1.out.trans ((ext_alloc w1 (.cells #[.pointer (some ⟨bd,0,none⟩),.int .i64 i,.int .i64 g,.int .i64 f,.string s] 77)).mono HW1.out.size));have HS2:=Lib.hid (Blk.new w1 #[.pointer (some ⟨bd,0,none⟩),.int .i64 i,.int .i64 g,.int .i64 f,.string s] 77);have k0:=HB1.out.cell 0 (v:=.int .i64 i) rfl;have k1:=HB1.out.cell 1 (v:=.int .i64 g) rfl;have k2:=HB1.out.cell 2 (v:=.int .i64 f) rfl)
  |(go_at_call 39;refine(HRD.out _ HW2.out).mono ?_;rintro e2 w2 ⟨rfl,rfl⟩)
  |(go_at_call 40;refine(HTL.out _).mono ?_;rintro e3 w3 ⟨A',n',c',rfl,hown,hb3⟩;have HS3:=Lib.hid ((HS2.out.ext hb3).alloc (.cells #[.int .i64 (E:Int)] 3));have HE3:=Lib.hid (Blk.new w3 #[.int .i64 (E:Int)] 3);have HW3:=Lib.hid ((HW2.out.trans (hb3.mono HW2.out.size)).trans ((ext_alloc w3 (.cells #[.int .i64 (E:Int)] 3)).mono (Nat.le_trans HW2.out.size hb3.size)));have HG3:=Lib.hid (Nat.le_trans HW2.out.size hb3.size);have HO3:=Lib.hid ((hown.below (ext_alloc w3 (.cells #[.int .i64 (E:Int)] 3)) (Nat.le_refl _)).lower HW2.out.size);clear hown hb3 k0 k1 k2)
  |(refine wpList_load_row rfl 77 (.tmp 7) rfl w1.heap.size #[.pointer (some ⟨bd,0,none⟩),.int .i64 i,.int .i64 g,.int .i64 f,.string s] _ (by simp[go_sem,Act.eval]) HS3.out Tryz.underlying77 rfl sg_info ?_)
  |(go_at_call 47;refine(HA.out w1.heap.size w3.heap.size (w3.heap.size+1) (w3.alloc (.cells #[.int .i64 (E:Int)] 3)) _ (by simp) HW3.out HS3.out HW1.out.size HE3.out HG3.out rfl).mono ?_;rintro e5 w5 ⟨rfl,S5,hD5,hG5,hK5⟩;have HD5:=Lib.hid (And.intro hD5 (And.intro hG5 hK5));have z0:=(show Blk w5 w3.heap.size #[.int .i64 (E:Int)] 3 from((hK5 _ HG3.out HE3.out.lt).1).trans HE3.out).cell 0 (v:=.int .i64 (E:Int)) rfl;clear hD5 hG5 hK5))
 go_region
 all_goals
  go_wp2_with fail
  go_ret3
  refine⟨_,_,_,rfl,own_block HO3.out fun j e=>?_,S5,HD5.out.1.ext ⟨rfl,rfl,rfl,Nat.le_refl _,fun _ _=>rfl⟩,HD5.out.2.1.trans (Gr.of_below ⟨rfl,rfl,rfl,Nat.le_refl _,fun _ _=>rfl⟩),fun j e=>?_⟩
  ·have hj:=World.ownsRow.lt HO3.out j e
   exact(HD5.out.2.2 j hj.1 hj.2).1
  ·have hj:=World.ownsRow.lt HO3.out j e
   exact(HD5.out.2.2 j hj.1 hj.2).2
end
end Dk
end Go.Proofs.YtlnbjikooadmoaaGreat
namespace Go.Proofs.YtlnbjikooadmoaaGreat
namespace Dk
open Go.RowKit Hd Fm Sn Bk Rd
section
variable {w w':World} {S:Nat->Prop} {bd gN gS:Nat} {v:Value} {D:DS}
set_option maxHeartbeats 3200000 in
set_option maxRecDepth 100000 in
theorem create_exist (h:DiskAt w S bd D) {s:ByteArray} {b:Nat} (ho:D.off=false) (hs:Nm.check s.data.toList=0) (hl:lk s D.now=some b) :
  Calls Tryz.prog 63 #[.pointer (some ⟨bd,0,none⟩),.string s] w fun e w'=>e=.returned (.int .i64 202)/\Below w.heap.size w w':=by
 have HU:=Lib.hid (fun wx (h:DiskAt wx S bd D)=>up_any h)
 have HN:=Lib.hid (fun wx=>Nm.check_any s wx)
 rw[hs] at HN
 have hup:upE D=0:=by unfold upE;rw[ho];rfl
 rw[hup] at HU
 have HD:=Lib.hid h
 obtain⟨gN,gS,v,h⟩:=h
 have HM:=Lib.hid h
 have HL:=Lib.hid (show find1 s (vs D.now)=some (ptr b) from by rw[vs_find,hl];rfl)
 clear h ho hs hl hup
 go_enter Tryz.func63, Tryz.ntmps63
 go_wp2_with (first
  |(go_at_call 50;refine(HU.out _ HD.out).mono ?_;rintro e1 w1 ⟨rfl,rfl⟩)
  |(go_at_call 105;refine(HN.out _).mono ?_;rintro e2 w2 ⟨rfl,hb2⟩;have HB2:=Lib.hid hb2;have HM2:=Lib.hid (HM.out.ext hb2);have k0:=HM2.out.c0;clear hb2)
  |(at_lookup;refine wpList_lookupS Tryz.underlying72 Tryz.underlying9 ptr_zero HM2.out.now s _ _ ?_;rw[HL.out]))
 go_ret
 exact⟨rfl,HB2.out⟩
set_option maxHeartbeats 1600000 in
theorem create1_exist (h:DiskAt w S bd D) {bS b:Nat} {i g f:Int} {s:ByteArray} (hb:Blk w bS (sgc bd i g f s) 77) (ho:D.off=false) (hs:Nm.check s.data.toList=0) (hl:lk s D.now=some b) :
  Calls Tryz.prog 79 #[.pointer (some ⟨bS,0,none⟩)] w fun e w'=>e=.returned (.int .i64 202)/\Below w.heap.size w w':=by
 have HC:=Lib.hid (create_exist h ho hs hl)
 have k0:=hb.cell 0 (v:=.pointer (some ⟨bd,0,none⟩)) rfl
 have k4:=hb.cell 4 (v:=.string s) rfl
 clear h hb ho hs hl
 go_enter Tryz.func79, Tryz.ntmps79
 go_wp2_with (go_at_call 63;refine HC.out.mono ?_;rintro e5 w5 ⟨rfl,hb5⟩)
 go_ret
 exact⟨rfl,hb5⟩
theorem create_all_exist (h:DiskAt w S bd D) {bS bB gF b:Nat} {i g f:Int} {s:ByteArray} (hS:Blk w bS (sgc bd i g f s) 77)
  (hF:Blk w gF #[.func (.func 79) #[] #[.pointer (some ⟨bS,0,none⟩)],.func (.func 80) #[] #[.pointer (some ⟨bS,0,none⟩),.pointer (some ⟨bB,0,none⟩)],.func (.func 53) #[.agg (sgc bd i g f s)] #[]] 57)
  (ho:D.off=false) (hs:Nm.check s.data.toList=0) (hl:lk s D.now=some b) :
  Calls Tryz.prog 47 #[.slice (some ⟨gF,0,none⟩) 3 3] w fun e w'=>e=.returned (.int .i64 202)/\Below w.heap.size w w':=by
 refine(all_any [(79,#[],#[.pointer (some ⟨bS,0,none⟩)]),(80,#[],#[.pointer (some ⟨bS,0,none⟩),.pointer (some ⟨bB,0,none⟩)]),(53,#[.agg (sgc bd i g f s)],#[])]
  (some ⟨gF,0,none⟩) 3 3 w (fun k wx=>k=0/\wx=w) (fun x wx=>x=202/\Below w.heap.size w wx) (by omega) ?_ ⟨rfl,rfl⟩ ?_ ?_).mono ?_
 ·rintro k wx ⟨-,rfl⟩
  exact rd_blk hF
 ·intro f' hf'
  simp only[List.mem_cons,List.not_mem_nil,or_false] at hf'
  rcases hf' with rfl|rfl|rfl
  ·exact enters_of Tryz.func79 (by kernel_rfl) rfl
  ·exact enters_of Tryz.func80 (by kernel_rfl) rfl
  ·exact enters_of Tryz.func53 (by kernel_rfl) rfl
 ·rintro k f' hf' wx ⟨rfl,rfl⟩
  simp only[List.getElem?_cons_zero,Option.some.injEq] at hf'
  subst hf'
  refine(create1_exist h hS ho hs hl).mono ?_
  rintro e w2 ⟨rfl,hb⟩
  exact⟨202,rfl,.inr ⟨by decide,rfl,hb⟩⟩
 ·rintro e w' ⟨x,rfl,⟨-,h3,-⟩|⟨-,rfl,hb⟩⟩
  ·omega
  ·exact⟨rfl,hb⟩
set_option maxHeartbeats 3200000 in
set_option maxRecDepth 100000 in
theorem screate_exist (h:DiskAt w S bd D) {i g f:Nat} {s:ByteArray} {b:Nat} (hh:1<=i/\i<=999999/\1<=g/\g<=999999/\1<=f/\f<=1000000000) (ho:D.off=false) (hs:Nm.check s.data.toList=0) (hl:lk s D.now=some b) :
  Calls Tryz.prog 31 #[.agg (sgc bd i g f s)] w fun e w'=>e=.returned (.int .i64 202)/\Below w.heap.size w w':=by
 have HP:=Lib.hid (fun w=>hput_yes i g f w hh)
 have HA:=Lib.hid (show ∀w1 w3,Below w.heap.size w w1->Blk w1 w.heap.size (sgc bd i g f s) 77 ->
   w3=(w1.alloc (.cells #[.string (hb i g f)] 9)).alloc (.cells #[.func (.func 79) #[] #[.pointer (some ⟨w.heap.size,0,none⟩)],.func (.func 80) #[] #[.pointer (some ⟨w.heap.size,0,none⟩),.pointer (some ⟨w1.heap.size,0,none⟩)],.func (.func 53) #[.agg (sgc bd i g f s)] #[]] 57) ->
   Calls Tryz.prog 47 #[.slice (some ⟨w1.heap.size+1,0,none⟩) 3 3] w3 fun e w'=>e=.returned (.int .i64 202)/\Below w.heap.size w w' from by
  rintro w1 w3 hb1 hS rfl
  have e2:=ext_second w1 (.cells #[.string (hb i g f)] 9) (.cells #[.func (.func 79) #[] #[.pointer (some ⟨w.heap.size,0,none⟩)],.func (.func 80) #[] #[.pointer (some ⟨w.heap.size,0,none⟩),.pointer (some ⟨w1.heap.size,0,none⟩)],.func (.func 53) #[.agg (sgc bd i g f s)] #[]] 57)
  have e3:=hb1.trans (e2.mono hb1.size)
  refine(create_all_exist (h.ext e3) (hS.ext e2) (blk_second w1 _ _ _) ho hs hl).mono ?_
  rintro e w' ⟨rfl,hb⟩
  exact⟨rfl,e3.trans (hb.mono e3.size)⟩)
 clear h hh ho hs hl
 unfold sgc at *
 have B0:=Blk.new w #[.pointer (some ⟨bd,0,none⟩),.int .i64 i,.int .i64 g,.int .i64 f,.string s] 77
 have B2:=ext_alloc w (.cells #[.pointer (some ⟨bd,0,none⟩),.int .i64 i,.int .i64 g,.int .i64 f,.string s] 77)
 generalize hb i g f=H at *
 go_enter Tryz.func31, Tryz.ntmps31
 go_wp2_with (first
  |(go_at_call 32;refine(HP.out _).mono ?_;rintro e1 w1 ⟨rfl,hb1⟩;have HB1:=Lib.hid (B0.ext hb1);have HW1:=Lib.hid (B2.trans (hb1.mono B2.size));clear hb1 B0 B2;have k0:=HB1.out.cell 0 (v:=.pointer (some ⟨bd,0,none⟩)) rfl;have k1:=HB1.out.cell 1 (v:=.int .i64 i) rfl;have k2:=HB1.out.cell 2 (v:=.int .i64 g) rfl;have k3:=HB1.out.cell 3 (v:=.int .i64 f) rfl;have k4:=HB1.out.cell 4 (v:=.string s) rfl;have l0:=HB1.out.lt)
  |(go_at_call 47;refine(HA.out _ _ HW1.out HB1.out rfl).mono ?_;rintro e5 w5 ⟨rfl,hb5⟩))
 go_ret
 exact⟨rfl,hb5⟩
set_option maxHeartbeats 3200000 in
set_option maxRecDepth 100000 in
theorem Create_exist (h:DiskAt w S bd D) {i g f:Nat} {b:Nat} (hh:1<=i/\i<=999999/\1<=g/\g<=999999/\1<=f/\f<=1000000000) (ho:D.off=false) (hl:lk (segN i g) D.now=some b) :
  Calls Tryz.prog 8 #[.pointer (some ⟨bd,0,none⟩),.agg #[.int .i64 (i:Int),.int .i64 (g:Int),.int .i64 (f:Int)]] w fun e w'=>e=.returned (.int .i64 202)/\Below w.heap.size w w':=by
 have hs:Nm.check (segN i g).data.toList=0:=Nm.check_seg i g
 have HO:=Lib.hid (fun w=>of_ok (bd:=bd) (i:Int) (g:Int) (f:Int) w (by simp only[okH,decide_eq_true_eq];omega))
 have HC:=Lib.hid (fun(wx:World) (hx:Below w.heap.size w wx)=>screate_exist (h.ext hx) hh ho hs hl)
 clear h hh ho hs hl
 unfold sgc at *
 generalize segN i g=s at *
 have B2:=ext_alloc w (.cells #[.int .i64 (i:Int),.int .i64 (g:Int),.int .i64 (f:Int)] 33)
 go_enter Tryz.func8, Tryz.ntmps8
 go_wp2_with (first
  |(go_at_call 30;refine(HO.out _).mono ?_;rintro e1 w1 ⟨rfl,hb1⟩;have HW1:=Lib.hid (B2.trans (hb1.mono B2.size));clear hb1 B2;have HW2:=Lib.hid (HW1.out.trans ((ext_alloc w1 (.cells #[.pointer (some ⟨bd,0,none⟩),.int .i64 i,.int .i64 g,.int .i64 f,.string s] 77)).mono HW1.out.size)))
  |(go_at_call 31;refine(HC.out _ HW2.out).mono ?_;rintro e5 w5 ⟨rfl,hb5⟩))
 go_ret
 exact⟨rfl,HW2.out.trans (hb5.mono HW2.out.size)⟩
set_option maxHeartbeats 3200000 in
set_option maxRecDepth 100000 in
theorem Create_bad (i g f:Int) (w:World) (h:okH i g f=false) :
  Calls Tryz.prog 8 #[.pointer (some ⟨bd,0,none⟩),.agg #[.int .i64 i,.int .i64 g,.int .i64 f]] w fun e w'=>e=.returned (.int .i64 210)/\Below w.heap.size w w':=by
 have HO:=Lib.hid (fun w=>of_bad (bd:=bd) i g f w h)
 clear h
 have B2:=ext_alloc w (.cells #[.int .i64 i,.int .i64 g,.int .i64 f] 33)
 go_enter Tryz.func8, Tryz.ntmps8
 go_wp2_with (first
  |(go_at_call 30;refine(HO.out _).mono ?_;rintro e1 w1 ⟨rfl,hb1⟩;have HW1:=Lib.hid (B2.trans (hb1.mono B2.size));clear hb1 B2))
 go_ret
 exact⟨rfl,HW1.out.trans ((ext_alloc w1 _).mono HW1.out.size)⟩
set_option maxHeartbeats 3200000 in
set_option maxRecDepth 100000 in
theorem Size_go {A:Option Addr} {n c:Nat} {l:List (Int×Int×ByteArray)} (w:World) (Z:Nat) (hrd:Rd w w.heap.size 3 A n (fl3 l)) (hn:n<=100000) (hj:jE l=0) (hne:l≠ []) (hZ:∀B,BlkOf l B->B.size+9=Z) :
  Calls Tryz.prog 29 #[.slice A n c] w fun e w'=>e=.returned (.int .i64 (Z:Int))/\Below w.heap.size w w':=by
 have HE:=Lib.hid (encode_blk A n c l w hrd hn hj hne)
 have HF:=Lib.hid (fun(B:ByteArray) (hB:BlkOf l B) wx=>fsize_any B wx (by have:=(hB.size hj hne).2;omega))
 have HZ:=Lib.hid hZ
 clear hrd hn hj hne hZ
 go_enter Tryz.func29, Tryz.ntmps29
 go_wp2_with (first
  |(go_at_call 15;refine HE.out.mono ?_;rintro e1 w1 ⟨⟨B,hB,rfl⟩,hb1⟩;have HB:=Lib.hid hB;have HW:=Lib.hid hb1;clear hB hb1)
  |(go_at_call 35;refine(HF.out B HB.out _).mono ?_;rintro e2 w2 ⟨rfl,rfl⟩))
 go_ret
 refine⟨?_,HW.out⟩
 rw[<-HZ.out B HB.out];rfl
end
end Dk
end Go.Proofs.YtlnbjikooadmoaaGreat
namespace Go.Proofs.YtlnbjikooadmoaaGreat
namespace Dk
open Go.RowKit Hd Fm Sn
section
variable {w w':World} {S:Nat->Prop} {bd gN gS:Nat} {v:Value} {D:DS}
set_option maxHeartbeats 3200000 in
set_option maxRecDepth 100000 in
theorem Read_go (h:DiskAt w S bd D) {i g f:Int} (hh:okH i g f=true) :
  Calls Tryz.prog 12 #[.pointer (some ⟨bd,0,none⟩),.agg #[.int .i64 i,.int .i64 g,.int .i64 f]] w fun e w'=>e=.returned (.tuple #[.string (readP D (segN i g)).1,.int .i64 (readP D (segN i g)).2])/\Below w.heap.size w w':=by
 have HO:=Lib.hid (fun w=>of_ok (bd:=bd) i g f w hh)
 have HC:=Lib.hid (fun(wx:World) (hx:Below w.heap.size w wx)=>read_any (h.ext hx) (segN i g))
 clear h hh
 unfold sgc at *
 generalize segN i g=s at *
 have B2:=ext_alloc w (.cells #[.int .i64 i,.int .i64 g,.int .i64 f] 33)
 go_enter Tryz.func12, Tryz.ntmps12
 go_wp2_with (first
  |(go_at_call 30;refine(HO.out _).mono ?_;rintro e1 w1 ⟨rfl,hb1⟩;have HW1:=Lib.hid (B2.trans (hb1.mono B2.size));clear hb1 B2;have HW2:=Lib.hid (HW1.out.trans ((ext_alloc w1 (.cells #[.pointer (some ⟨bd,0,none⟩),.int .i64 i,.int .i64 g,.int .i64 f,.string s] 77)).mono HW1.out.size)))
  |(go_at_call 39;refine(HC.out _ HW2.out).mono ?_;rintro e5 w5 ⟨rfl,rfl⟩))
 go_ret2
 exact⟨rfl,HW2.out⟩
set_option maxHeartbeats 3200000 in
set_option maxRecDepth 100000 in
theorem Sync_go (h:DiskAt w S bd D) {i g f:Int} {b:Nat} {p:ByteArray×ByteArray} (hh:okH i g f=true) (ho:D.off=false) (hl:lk (segN i g) D.now=some b) (hp:D.fl b=some p) :
  Calls Tryz.prog 20 #[.pointer (some ⟨bd,0,none⟩),.agg #[.int .i64 i,.int .i64 g,.int .i64 f]] w fun e w'=>e=.returned (.int .i64 (opE D))/\ ∃S',DiskAt w' S' bd (opS true (setF b (p.2,p.2)) D)/\Gr S w S' w':=by
 have HO:=Lib.hid (fun w=>of_ok (bd:=bd) i g f w hh)
 have HC:=Lib.hid (fun(wx:World) (hx:Below w.heap.size w wx)=>ssync_go (h.ext hx) (i:=i) (g:=g) (f:=f) ho hl hp)
 clear h hh ho hl hp
 unfold sgc at *
 generalize segN i g=s at *
 have B2:=ext_alloc w (.cells #[.int .i64 i,.int .i64 g,.int .i64 f] 33)
 go_enter Tryz.func20, Tryz.ntmps20
 go_wp2_with (first
  |(go_at_call 30;refine(HO.out _).mono ?_;rintro e1 w1 ⟨rfl,hb1⟩;have HW1:=Lib.hid (B2.trans (hb1.mono B2.size));clear hb1 B2;have HW2:=Lib.hid (HW1.out.trans ((ext_alloc w1 (.cells #[.pointer (some ⟨bd,0,none⟩),.int .i64 i,.int .i64 g,.int .i64 f,.string s] 77)).mono HW1.out.size)))
  |(go_at_call 53;refine(HC.out _ HW2.out).mono ?_;rintro e5 w5 ⟨rfl,S5,hD5,hG5⟩;have HD5:=Lib.hid (And.intro hD5 hG5);clear hD5 hG5))
 go_ret
 exact⟨rfl,S5,HD5.out.1,(Gr.of_below HW2.out).trans HD5.out.2⟩
end
end Dk
end Go.Proofs.YtlnbjikooadmoaaGreat
namespace Go.Proofs.YtlnbjikooadmoaaGreat
namespace Bd
open Go.RowKit
section
variable {P:Program} (w:World)
theorem run_append_str_at (t u ty e:TypeId) (i:TypeInfo) (ht:P.underlying t=some (.slice e)) (hu:P.underlying u=some .string) (hi:P.info? e=some i) (hz:i.zero=some (.int .u8 0)) (hsize:i.size=1) (hby:i.bytes=1)
  (v:Value) (n:Nat) (xs:List Value) (hown:w.ownsRow 0 e 1 v n xs) (s:ByteArray) (h63:n+s.size<=maxLen) (hbytes:n+s.size<=140737488355328) :
  ∃v' w',(Builtin.append_ #[t,u] ty #[v,.string s]).run P w=.ok v' w'/\w'.ownsRow 0 e 1 v' (n+s.size) (xs++Lib.strCells s)/\w.grownBy w' v.ownBlock/\(v'.ownBlock=v.ownBlock∨ ∃g,v'.ownBlock=some g/\w.heap.size<=g):=by
 obtain⟨v',w',hr,h2,h3,h4⟩:=Lib.run_append_own_string (P:=P) w 0 t u ty e i ht hu hi hz hsize hby v n xs hown s h63 hbytes (Nat.zero_le _)
 refine⟨v',w',hr,h2,h3,?_⟩
 have hsmall:n+s.size<=9223372036854775807:=by simp only[maxLen] at h63;omega
 have hxl:xs.length=n:=by simpa using hown.1
 rcases hown.2 with ⟨rfl,rfl⟩|⟨g,cap,cur,rfl,hbg,hg,hnc,hcm,hcs,htake⟩
 ·by_cases hm:s.size=0
  ·rw[h4.2 ⟨rfl,hm⟩];exact .inl rfl
  ·obtain⟨v'',w'',hr',h2',-,-⟩:=Lib.run_append_own_string (P:=P) w w.heap.size t u ty e i ht hu hi hz hsize hby (.slice none 0 0) 0 xs ⟨hown.1,.inl ⟨rfl,rfl⟩⟩ s h63 hbytes (Nat.le_refl _)
   rw[hr] at hr'
   cases hr'
   rcases h2'.2 with ⟨e1,e2⟩|⟨g,cap,cur,rfl,hbg,-⟩
   ·exact .inl (by rw[e1])
   ·exact .inr ⟨g,rfl,hbg⟩
 ·by_cases hroom:n+s.size<=cap
  ·have hcs':cur.size=cap:=by simpa using hcs
   have hr':=Lib.run_append_room_string (P:=P) w t u ty e i ht hu hi hsize g n cap cur hg s hroom (by omega)
   rw[hr] at hr'
   cases hr'
   exact .inl rfl
  ·have holds:∀j u,xs[j]? =some u->w.cell? ((⟨g,0,none⟩:Addr).add j)=some u:=hown.cells (g:=g) rfl
   have hr':=Lib.run_append_grow_string (P:=P) w t u ty e i (.int .u8 0) ht hu hi hz ⟨g,0,none⟩ n cap xs (by rw[hsize];simpa using hxl) holds s (by omega) (by omega) (by rw[hby];exact growslice_fits (by omega) (by omega))
   rw[hr] at hr'
   cases hr'
   exact .inr ⟨_,rfl,Nat.le_refl _⟩
theorem wpList_append_str_at {ops:Array Oper} {rest:List Oper} {o:Oper} {a:Act} {Q:Exit->Act->World->Prop} (hgd:o.guard=none) (sl x:Operand) (t u:TypeId) (ho:o.op=.call { callee:=.builtin .append,args:=#[sl,x],argTypes:=#[t,u] })
  (e:TypeId) (i:TypeInfo) (ht:P.underlying t=some (.slice e)) (hu:P.underlying u=some .string) (hi:P.info? e=some i) (hz:i.zero=some (.int .u8 0)) (hsize:i.size=1) (hby:i.bytes=1)
  (v:Value) (n:Nat) (xs:List Value) (hs:a.eval sl=v) (hown:w.ownsRow 0 e 1 v n xs) (s:ByteArray) (hx:a.eval x=.string s) (h63:n+s.size<=maxLen) (hbytes:n+s.size<=140737488355328)
  (h:∀v' w',w'.ownsRow 0 e 1 v' (n+s.size) (xs++Lib.strCells s)->w.grownBy w' v.ownBlock->(v'.ownBlock=v.ownBlock∨ ∃g,v'.ownBlock=some g/\w.heap.size<=g)->wpList P ops Q rest (a.put o.dst v') w'):wpList P ops Q (o::rest) a w:=by
 refine wpList_plain hgd fun K hK=>?_
 obtain⟨v',w',hr,h2,h3,h4⟩:=run_append_str_at (P:=P) w t u o.type e i ht hu hi hz hsize hby v n xs hown s h63 hbytes
 unfold Oper.wp execOp
 simp only[ho,resolve,invoke,builtin,Sem.run_bind,Sem.run_pure,Result.andThen_ok,List.map_toArray,List.map_cons,List.map_nil,hs,hx,hr]
 exact hK _ _ (h v' w' h2 h3 h4)
end
def Bs (w:World) (S:Nat->Prop) (b:Nat) (l:List UInt8):Prop :=
 ∃p v,(p=.pointer none∨p=.pointer (some ⟨b,0,none⟩))/\w.heap[b]? =some (.cells #[p,v] 120 (0,0))/\w.ownsRow 0 5 1 v l.length (bv l)/\v.ownBlock≠some b/\S b/\(∀g,v.ownBlock=some g->S g)/\ ∀k,S k->k<w.heap.size
theorem Bs.kept {w w':World} {S:Nat->Prop} {b:Nat} {l:List UInt8} (h:Bs w S b l) (hs:w.heap.size<=w'.heap.size) (hb:∀k,S k->w'.heap[k]? =w.heap[k]?):Bs w' S b l:=by
 obtain⟨p,v,h1,h2,h3,h4,h5,h6,h7⟩:=h
 refine⟨p,v,h1,(hb b h5).trans h2,?_,h4,h5,h6,fun k hk=>Nat.lt_of_lt_of_le (h7 k hk) hs⟩
 rcases h3 with ⟨q1,q2⟩
 refine⟨q1,?_⟩
 rcases q2 with q2|⟨g,cap,cur,rfl,hg,hc,hr⟩
 ·exact .inl q2
 ·exact .inr ⟨g,cap,cur,rfl,hg,(hb g (h6 g rfl)).trans hc,hr⟩
theorem Bs.ext {w w':World} {S:Nat->Prop} {b:Nat} {l:List UInt8} (h:Bs w S b l) (hb:Below w.heap.size w w'):Bs w' S b l:=by
 have h7:∀k,S k->k<w.heap.size:=by
  obtain⟨p,v,h1,h2,h3,h4,h5,h6,h7⟩:=h
  exact h7
 exact h.kept hb.size fun k hk=>hb.block k (h7 k hk)
theorem Bs.new (w:World):Bs (w.alloc (.cells #[.pointer none,.slice none 0 0] 120)) (fun k=>k=w.heap.size) w.heap.size [] :=
 ⟨_,_,.inl rfl,heap_alloc_new w _,World.ownsRow_nil _ _ _ _,by simp[Value.ownBlock],rfl,fun g hg=>(by cases hg),fun k hk=>(by subst hk;simp)⟩
theorem Bs.bb {w:World} {S:Nat->Prop} {b:Nat} {l:List UInt8} (h:Bs w S b l):Bb w 0 b l:=by
 obtain⟨p,v,h1,h2,h3,h4,-⟩:=h
 rcases h1 with rfl|rfl
 ·exact .inl ⟨Nat.zero_le _,v,h2,by rw[bv_length];exact h3,h4⟩
 ·exact .inr ⟨Nat.zero_le _,v,h2,by rw[bv_length];exact h3,h4⟩
set_option maxHeartbeats 3200000 in
set_option maxRecDepth 100000 in
theorem write_gr (S:Nat->Prop) (b:Nat) (l:List UInt8) (s:ByteArray) (w:World) (h:Bs w S b l) (hl:l.length+s.size<=1099511627776) :
  Calls Tryz.prog 71 #[.pointer (some ⟨b,0,none⟩),.string s] w fun e w'=>e=.returned (.tuple #[.int .i64 s.size,.nilIface])/\ ∃S',Bs w' S' b (l++s.data.toList)/\Gr S w S' w':=by
 obtain⟨i0,hi,hz0,hz1,hz2⟩:=info_parts byte_info
 have hbl:(bv l).length=l.length:=bv_length l
 have HC:=Lib.hid (show Calls Tryz.prog 108 #[.pointer (some ⟨b,0,none⟩)] w fun e w1=>e=.returned (.tuple #[])/\ ∃v,w1.heap[b]? =some (.cells #[.pointer (some ⟨b,0,none⟩),v] 120 (0,0))/\w1.ownsRow 0 5 1 v l.length (bv l)/\v.ownBlock≠some b/\(∀g,v.ownBlock=some g->S g)/\Gr S w S w1 from by
  have hb:=h.bb
  obtain⟨p,v,h1,h2,h3,h4,h5,h6,h7⟩:=h
  have hlt:b<w.heap.size:=(Array.getElem?_eq_some_iff.1 h2).1
  rcases h1 with rfl|rfl
  ·rcases hb with hb|hb
   ·refine(copyCheck_fresh b w hb.cell0 hb.shape hb.frozen0).mono ?_
    rintro e w' ⟨rfl,rfl⟩
    refine⟨rfl,v,?_,?_,h4,h6,Gr.setCell h5 0 _⟩
    ·simp[World.setCell,Array.getElem?_modify,h2]
    ·rcases h3 with ⟨q1,q2⟩
     refine⟨q1,?_⟩
     rcases q2 with q2|⟨g,cap,cur,rfl,hg,hc,hr⟩
     ·exact .inl q2
     ·exact .inr ⟨g,cap,cur,rfl,hg,(Below.heap_setCell w ⟨b,0,none⟩ _ g (by rintro rfl;exact h4 rfl)).trans hc,hr⟩
   ·have:=hb.cell0
    have c0:w.cell? ⟨b,0,none⟩=some (.pointer none):=by rw[Lib.cell_of_heap h2];rfl
    rw[c0] at this;cases this
  ·have c0:w.cell? ⟨b,0,none⟩=some (.pointer (some ⟨b,0,none⟩)):=by rw[Lib.cell_of_heap h2];rfl
   refine(copyCheck_used b w c0).mono ?_
   rintro e w' ⟨rfl,rfl⟩
   exact⟨rfl,v,h2,h3,h4,h6,Gr.refl _ _⟩)
 have HB:=Lib.hid (show S b/\ ∀k,S k->k<w.heap.size from by
  obtain⟨p,v,h1,h2,h3,h4,h5,h6,h7⟩:=h
  exact⟨h5,h7⟩)
 clear h
 go_enter Tryz.func71, Tryz.ntmps71
 go_wp2_with fail
 refine HC.out.mono ?_
 rintro e w1 ⟨rfl,v,hbk,hown,hne,hsv,hg1⟩
 have c0:w1.cell? ⟨b,0,none⟩=some (.pointer (some ⟨b,0,none⟩)):=by rw[Lib.cell_of_heap hbk];rfl
 have c1:w1.cell? ⟨b,1,none⟩=some v:=by rw[Lib.cell_of_heap hbk];rfl
 clear HC
 go_wp2_with (at_builtin;refine wpList_append_str_at _ rfl _ _ 96 9 rfl 5 i0 (by kernel_rfl) (by kernel_rfl) hi hz0 hz1 hz2 _ _ _ rfl hown s rfl ?c3 ?c4 ?_)
 case c3=>unfold maxLen;omega
 case c4=>omega
 intro v' w2 hown' hgrow hat
 have hlt:b<w1.heap.size:=by
  rcases Nat.lt_or_ge b w1.heap.size with h'|h'
  ·exact h'
  ·simp[Array.getElem?_eq_none h'] at hbk
 have hb2:w2.heap[b]? =some (.cells #[.pointer (some ⟨b,0,none⟩),v] 120 (0,0)):=by
  rw[hgrow.block b hlt (fun e=>hne e.symm)]
  exact hbk
 have d0:w2.cell? ⟨b,0,none⟩=some (.pointer (some ⟨b,0,none⟩)):=by rw[Lib.cell_of_heap hb2];rfl
 have d1:w2.cell? ⟨b,1,none⟩=some v:=by rw[Lib.cell_of_heap hb2];rfl
 have f1:w2.frozen? ⟨b,1,none⟩=false:=Lib.frozen_of_heap hb2 1
 obtain⟨ao,n',cap,rfl⟩:∃ao n' cap,v'=.slice ao n' cap:=by
  rcases hown'.2 with ⟨hv,_⟩|⟨g,cap,cur,hv,_⟩
  ·exact⟨_,_,_,hv⟩
  ·exact⟨_,_,_,hv⟩
 have HX:=Lib.hid (show ∃S',Bs (w2.setCell ⟨b,1,none⟩ (.slice ao n' cap)) S' b (l++s.data.toList)/\Gr S w S' (w2.setCell ⟨b,1,none⟩ (.slice ao n' cap)) from by
  have hs2:w1.heap.size<=w2.heap.size:=hgrow.size
  have hg2:Gr S w1 S w2:=Gr.of_grown hgrow hsv
  have hne2:(Value.slice ao n' cap).ownBlock≠some b:=by
   rcases hat with e|⟨g,e,hg⟩
   ·rw[e];exact hne
   ·rw[e];intro e2;cases e2;omega
  have hblt:∀g,(Value.slice ao n' cap).ownBlock=some g->g<w2.heap.size:=by
   intro g hg
   rcases hown'.2 with ⟨hv,_⟩|⟨g',cap',cur,hv,-,hc,-⟩
   ·rw[hv] at hg;cases hg
   ·rw[hv] at hg
    have:g'=g:=by simpa[Value.ownBlock] using hg
    subst this
    exact(Array.getElem?_eq_some_iff.1 hc).1
  refine⟨fun k=>S k∨(Value.slice ao n' cap).ownBlock=some k,⟨_,_,.inr rfl,?_,?_,hne2,.inl HB.out.1,fun g hg=>.inr hg,?_⟩,?_⟩
  ·simp[World.setCell,Array.getElem?_modify,hb2]
  ·rw[List.length_append,bv_append,<-strCells_eq,show s.data.toList.length=s.size from rfl]
   rcases hown' with ⟨q1,q2⟩
   refine⟨q1,?_⟩
   rcases q2 with q2|⟨g,cap',cur,hv,hg,hc,hr⟩
   ·exact .inl q2
   ·exact .inr ⟨g,cap',cur,hv,hg,(Below.heap_setCell w2 ⟨b,1,none⟩ _ g (by rintro rfl;exact hne2 (by rw[hv];rfl))).trans hc,hr⟩
  ·rintro k (hk|hk)
   ·have:=HB.out.2 k hk
    have:=hg1.size
    simp;omega
   ·have:=hblt k hk
    simp;omega
  ·refine((hg1.trans hg2).trans (Gr.setCell HB.out.1 1 _)).more ?_
   rintro k (hk|hk)
   ·exact .inl hk
   ·rcases hat with e|⟨g,e,hg⟩
    ·rw[e] at hk
     exact .inl (hsv k hk)
    ·rw[e] at hk
     cases hk
     have:=hg1.size
     exact .inr (by omega))
 clear hown hown' hgrow hg1 hbk hb2 hne hlt hsv hat
 go_wp2_with fail
 go_ret2
 exact⟨rfl,HX.out⟩
theorem gr_freeze {S:Nat->Prop} {w:World} {g:Nat} (hg:S g) (n:Nat):Gr S w S (w.drew.freeze ⟨g,0,none⟩ n):=by
 unfold World.freeze
 split
 ·exact⟨rfl,rfl,rfl,Nat.le_refl _,fun _ _ _=>rfl,fun _ h=>.inl h⟩
 ·refine⟨rfl,rfl,rfl,by simp,fun k _ hk=>?_,fun _ h=>.inl h⟩
  show(w.heap.modify g _)[k]? =_
  rw[Array.getElem?_modify,if_neg (by rintro rfl;exact hk hg)]
set_option maxHeartbeats 2000000 in
set_option maxRecDepth 100000 in
theorem string_gr (S:Nat->Prop) (b:Nat) (l:List UInt8) (w:World) (h:Bs w S b l) (h0:l≠ []) :
  Calls Tryz.prog 72 #[.pointer (some ⟨b,0,none⟩)] w fun e w'=>e=.returned (.string ⟨l.toArray⟩)/\Gr S w S w':=by
 obtain⟨p,v,-,hbk,hown,-,-,hsv,-⟩:=h
 have hl0:l.length≠0:=by simpa using h0
 obtain⟨g,cap,cur,rfl,hbg,hg,hnc,hcm,hcs,htake⟩:∃g cap cur,v=.slice (some ⟨g,0,none⟩) l.length cap/\0<=g/\w.heap[g]? =some (.cells cur 5 (0,0))/\l.length<=cap/\cap<=maxLen/\cur.size=cap*1/\cur.toList.take (l.length*1)=bv l:=by
  rcases hown.2 with ⟨_,hz⟩|⟨g,cap,cur,hv,r⟩
  ·exact absurd hz hl0
  ·exact⟨g,cap,cur,hv,r⟩
 have c1:w.drew.cell? ⟨b,1,none⟩=some (.slice (some ⟨g,0,none⟩) l.length cap):=by
  have:w.drew.heap[b]? =some (.cells #[p,.slice (some ⟨g,0,none⟩) l.length cap] 120 (0,0)):=hbk
  rw[Lib.cell_of_heap this];rfl
 have hSD:(Builtin.unsafeSliceData_ #[96] 170 #[.slice (some ⟨g,0,none⟩) l.length cap]).run Tryz.prog w.drew=.ok (.pointer (some ⟨g,0,none⟩)) w.drew :=
  Lib.run_unsafeSliceData_row _ _ _ _ _ _ (by omega)
 have hUS:(Builtin.unsafeString_ #[170,3] 9 #[.pointer (some ⟨g,0,none⟩),.int .i64 l.length]).run Tryz.prog w.drew=.ok (.string ⟨l.toArray⟩) (w.drew.freeze ⟨g,0,none⟩ l.length):=by
  refine Lib.run_unsafeString_row w.drew 170 3 9 5 Tryz.underlying170 (by kernel_rfl) g cur.size (by have hg':w.drew.heap[g]? =some (.cells cur 5 (0,0)):=hg;simp[World.shape?,hg']) l h0 (by omega) (by unfold maxLen at hcm;omega) ?_
  intro j x hx
  have:=hown.cells (g:=g) rfl j (.int .u8 x.toNat) (by simp[bv,hx])
  exact this
 have mixed:Tryz.prog.follows .mixedOrders=true:=by kernel_rfl
 have HS:=Lib.hid (hsv g rfl)
 clear hown hg hnc hcm hcs htake hbk hsv hbg
 go_enter Tryz.func72, Tryz.ntmps72
 go_wp2_with fail
 go_region
 all_goals (go_wp2_with fail;go_ret;exact⟨rfl,gr_freeze HS.out _⟩)
end Bd
end Go.Proofs.YtlnbjikooadmoaaGreat
namespace Go.Proofs.YtlnbjikooadmoaaGreat
namespace Dk
open Go.RowKit Hd Fm Sn Bk Rd Bd
abbrev Pb:=List (Int×Int×ByteArray)×ByteArray
def mt1 (T:Nat) (x:Pb):Mt:=mtOf T x.2 x.1 (at3 x.1 0).1.toNat (at3 x.1 0).2.1.toNat (at3 x.1 (x.1.length-1)).2.1.toNat
def tot:List Pb->Nat
 | []=>0
 |x::l=>(x.2.size+9)+tot l
def lay (T:Nat):List Pb->List Mt
 | []=>[]
 |x::l=>mt1 T x::lay (T+(x.2.size+9)) l
def cat:List Pb->List UInt8
 | []=>[]
 |x::l=>(frB 2 x.2).data.toList++cat l
theorem tot_snoc (x:Pb):∀l,tot (l++[x])=tot l+(x.2.size+9)
 | []=>by simp[tot]
 |y::l=>by rw[List.cons_append,tot,tot,tot_snoc x l];omega
theorem lay_snoc (x:Pb):∀(l:List Pb) (T:Nat),lay T (l++[x])=lay T l++[mt1 (T+tot l) x]
 | [],T=>by simp[lay,tot]
 |y::l,T=>by rw[List.cons_append,lay,lay,lay_snoc x l,tot,List.cons_append,Nat.add_assoc]
theorem cat_snoc (x:Pb):∀l,cat (l++[x])=cat l++(frB 2 x.2).data.toList
 | []=>by simp[cat]
 |y::l=>by rw[List.cons_append,cat,cat,cat_snoc x l,List.append_assoc]
theorem length_lay:∀(l:List Pb) (T:Nat),(lay T l).length=l.length
 | [],_=>rfl
 |x::l,T=>by rw[lay,List.length_cons,length_lay l,List.length_cons]
theorem length_cat:∀l,(cat l).length=tot l
 | []=>rfl
 |x::l=>by rw[cat,List.length_append,length_cat l,tot,show(frB 2 x.2).data.toList.length=(frB 2 x.2).size from rfl,size_frB]
theorem take_next {α:Type} {l:List α} {k:Nat} {x:α} (h:l[k]? =some x):l.take (k+1)=l.take k++[x]:=by
 rw[List.take_add_one,h];rfl
theorem tot_take (l:List Pb) (k:Nat):tot (l.take k)<=tot l:=by
 have:tot l=tot (l.take k)+tot (l.drop k):=by
  have e:∀a b:List Pb,tot (a++b)=tot a+tot b:=by
   intro a b
   induction a with
   |nil=>simp[tot]
   |cons x a ih=>rw[List.cons_append,tot,tot,ih];omega
  rw[<-e,List.take_append_drop]
 omega
def Good (pb:List Pb):Prop:=∀x∈pb,jE x.1=0/\x.1≠ []/\BlkOf x.1 x.2
theorem appendM {ops:Array Oper} {rest:List Oper} {o:Oper} {a:Act} {Q:Exit->Act->World->Prop} {s x:Operand} {B:Nat} {v:Value} {l:List Mt} {w0:World} (m:Mt) {x0 x1 x2 x3 x4 x5 x6:Int} (e0:x0=m.a) (e1:x1=m.s) (e2:x2=m.r) (e3:x3=m.c) (e4:x4=m.f) (e5:x5=m.e) (e6:x6=m.l)
  (hown:OwnM w0 B v l) (hl:l.length<=1000000) (hB:B<=w0.heap.size)
  (h:∀g cap w',OwnM w' B (.slice (some ⟨g,0,none⟩) (l.length+1) cap) (l++[m])->w0.grownBy w' v.ownBlock->(v.ownBlock=some g∨w0.heap.size<=g)->wpList Tryz.prog ops Q rest (a.put o.dst (.slice (some ⟨g,0,none⟩) (l.length+1) cap)) w')
  (hgd:o.guard=none:=by exact rfl) (ho:o.op=.call { callee:=.builtin .append,args:=#[s,x],argTypes:=#[35,35] }:=by exact rfl)
  (hs:a.eval s=v:=by exact rfl) (hx:a.eval x=.slice (some ⟨w0.heap.size,0,none⟩) 1 1:=by exact rfl) :
  wpList Tryz.prog ops Q (o::rest) a (w0.alloc (.cells #[.int .i64 x0,.int .i64 x1,.int .i64 x2,.int .i64 x3,.int .i64 x4,.int .i64 x5,.int .i64 x6] 39)):=by
 subst e0 e1 e2 e3 e4 e5 e6
 obtain⟨i0,hi,hz0,hz1,hz2⟩:=info_parts mt_info
 refine wpList_append_own_at _ hgd s x 35 ho B 39 i0 (magg 0 0 0 0 0 0 0) 7 56 Tryz.underlying35 hi hz0 hz1 hz2 rfl (by omega) v l.length (fl7 l) hs (World.ownsRow.alloc hown _)
  ⟨w0.heap.size,0,none⟩ 1 1 (cl7 m) hx rfl ?_ (by intro u hu;exact fl7_one [m] u (by simpa[fl7] using hu)) (by simp only[maxLen];omega) (by omega) (Nat.le_trans hB (by simp)) ?_
 ·intro j u hu
  rw[Addr.add_lit,Nat.zero_add,World.cell?_alloc_new]
  simpa[cl7] using hu
 intro v' w' hown' hg _ hat
 have hg0:w0.grownBy w' v.ownBlock:=(World.grownBy_alloc w0 _ v.ownBlock).trans hg
 have hown2:OwnM w' B v' (l++[m]):=by unfold OwnM;rw[fl7_append,List.length_append,show fl7 [m]=cl7 m from List.append_nil _];exact hown'
 rcases hown'.2 with ⟨-,e⟩|⟨g,cap,cur,rfl,-⟩
 ·omega
 ·refine h g cap w' hown2 hg0 ?_
  rcases hat with e|e
  ·exact .inl (by rw[<-e];rfl)
  ·simp only[Value.ownBlock,Option.some.injEq] at e
   exact .inr (by rw[e];simp)
structure La (w:World) (pb:List Pb) (T0 k bB:Nat) (v:Value) (wr:World):Prop where
 bld:∃SB,Bs wr SB bB (cat (pb.take k))/\(∀g,v.ownBlock=some g-> ¬ SB g)/\ ∀j,SB j->w.heap.size<=j
 own:OwnM wr w.heap.size v (lay T0 (pb.take k))
 below:Below w.heap.size w wr
theorem La.ext {w wr wx:World} {pb:List Pb} {T0 k bB:Nat} {v:Value} (h:La w pb T0 k bB v wr) (hb:Below wr.heap.size wr wx):La w pb T0 k bB v wx:=by
 obtain⟨⟨SB,h1,h2,h3⟩,h4,h5⟩:=h
 exact⟨⟨SB,h1.ext hb,h2,h3⟩,h4.below hb (Nat.le_refl _),h5.trans (hb.mono h5.size)⟩
structure Lb (w:World) (pb:List Pb) (T0 k bB:Nat) (v:Value) (wr:World):Prop where
 bld:∃SB,Bs wr SB bB (cat (pb.take k))/\(∀g,v.ownBlock=some g-> ¬ SB g)/\ ∀j,SB j->w.heap.size<=j
 own:OwnM wr w.heap.size v (lay T0 (pb.take (k+1)))
 below:Below w.heap.size w wr
theorem La.app {w wr w4:World} {pb:List Pb} {T0 k bB g cap n:Nat} {v:Value} {x:Pb} (h:La w pb T0 k bB v wr) (hx:pb[k]? =some x) (ho:OwnM w4 w.heap.size (.slice (some ⟨g,0,none⟩) n cap) (lay T0 (pb.take k)++[mt1 (T0+tot (pb.take k)) x]))
  (hg:wr.grownBy w4 v.ownBlock) (hat:v.ownBlock=some g∨wr.heap.size<=g):Lb w pb T0 k bB (.slice (some ⟨g,0,none⟩) n cap) w4:=by
 obtain⟨⟨SB,h1,h2,h3⟩,h4,h5⟩:=h
 have hlt:∀j,SB j->j<wr.heap.size:=by
  obtain⟨_,_,_,_,_,_,_,_,h⟩:=h1
  exact h
 refine⟨⟨SB,h1.kept hg.size fun j hj=>hg.block j (hlt j hj) fun e=>h2 j e.symm hj,fun j hj=>?_,h3⟩,?_,h5.grown hg h5.size (fun j hj=>(World.ownsRow.lt h4 j hj).1)⟩
 ·simp only[Value.ownBlock,Option.some.injEq] at hj
  subst hj
  rcases hat with e|e
  ·exact h2 _ e
  ·intro hs;have:=hlt _ hs;omega
 ·rw[take_next hx,lay_snoc];exact ho
theorem Lb.write {w w4 w5:World} {pb:List Pb} {T0 k bB:Nat} {v:Value} {x:Pb} {SB S5:Nat->Prop} (ho:OwnM w4 w.heap.size v (lay T0 (pb.take (k+1)))) (hb:Below w.heap.size w w4) (hx:pb[k]? =some x) (hn:∀g,v.ownBlock=some g-> ¬ SB g) (hS:∀j,SB j->w.heap.size<=j)
  (h5:Bs w5 S5 bB (cat (pb.take k)++(frB 2 x.2).data.toList)) (hg:Gr SB w4 S5 w5):La w pb T0 (k+1) bB v w5:=by
 have hlt:∀g,v.ownBlock=some g->g<w4.heap.size:=fun g e=>(World.ownsRow.lt ho g e).2
 refine⟨⟨S5,by rw[take_next hx,cat_snoc];exact h5,fun g e=>hg.out (hlt g e) (hn g e),fun j hj=>(hg.sub j hj).elim (hS j) (fun e=>Nat.le_trans hb.size e)⟩,own_block ho fun g e=>hg.block g (hlt g e) (hn g e),hb.trans (hg.below hb.size hS)⟩
end Dk
end Go.Proofs.YtlnbjikooadmoaaGreat
namespace Go.Proofs.YtlnbjikooadmoaaGreat
namespace Dk
open Go.RowKit Hd Fm Sn Bk Rd Bd
theorem str_at {w:World} {B n k:Nat} {A:Option Addr} {l:List Pb} (h:Rd w B 1 A n (l.map fun x=>.string x.2)) (hk:k<n):∃ad x,A=some ad/\ad.block<B/\l[k]? =some x/\w.cell? (ad.add k)=some (.string x.2):=by
 obtain⟨ad,u,e,hb,hx,hc⟩:=h.at1 hk
 rw[List.getElem?_map] at hx
 rcases hl:l[k]? with _|x
 ·rw[hl] at hx;cases hx
 ·rw[hl] at hx
  cases hx
  exact⟨ad,x,e,hb,rfl,hc⟩
section
variable {w w':World} {bd:Nat}
set_option maxHeartbeats 6400000 in
set_option maxRecDepth 100000 in
theorem laid_ok {i g f:Nat} {s:ByteArray} {A:Option Addr} {n c:Nat} {pb:List Pb} (hh:1<=i/\i<=999999/\1<=g/\g<=999999/\1<=f/\f<=1000000000) (hrd:Rd w w.heap.size 1 A n (pb.map fun x=>.string x.2)) (hn:n<=1000) (hne:pb≠ []) (hgd:Good pb) (ht:tot pb<=1000000) :
  Calls Tryz.prog 46 #[.agg (sgc bd i g f s),.slice A n c] w fun e w'=>∃v,e=.returned (.tuple #[v,.string ⟨(cat pb).toArray⟩,.int .i64 0])/\OwnM w' w.heap.size v (lay (hdrB i g f).size pb)/\Below w.heap.size w w':=by
 have hlen:pb.length=n:=by have:=hrd.len;simpa using this
 have hbs:=hb_size i g f hh
 have hsz:(hdrB i g f).size=(hb i g f).size+9:=size_frB 1 (hb i g f)
 have HE:=Lib.hid (fun wx=>End_ok none 0 0 i g f [] wx hh Rd.nil (by omega) rfl)
 have HC0:=Lib.hid (show cat pb≠ [] from by
  rcases pb with _|⟨x,l⟩
  ·exact absurd rfl hne
  ·intro e
   have:=congrArg List.length e
   rw[length_cat,tot] at this
   simp at this)
 have e0:endM (hdrB i g f).size []=(hdrB i g f).size:=rfl
 rw[e0] at HE
 have hT0:(hdrB i g f).size<=36:=by omega
 have HR:=Lib.hid hrd
 have HL:=Lib.hid hlen
 have HG:=Lib.hid hgd
 have HT:=Lib.hid ht
 clear hrd hlen hgd ht hbs hsz e0 hh hne
 generalize (hdrB i g f).size=T0 at *
 unfold sgc
 go_enter Tryz.func46, Tryz.ntmps46
 go_wp2_with (first
  |(go_at_call 9;refine(HE.out _).mono ?_;rintro e1 w1 ⟨rfl,hb1⟩;have HW1:=Lib.hid ((ext_alloc w (.cells #[.pointer (some ⟨bd,0,none⟩),.int .i64 i,.int .i64 g,.int .i64 f,.string s] 77)).trans (hb1.mono (ext_alloc w (.cells #[.pointer (some ⟨bd,0,none⟩),.int .i64 i,.int .i64 g,.int .i64 f,.string s] 77)).size));clear hb1))
 have H0:Aside (La w pb T0 0 w1.heap.size (.slice none 0 0) (w1.alloc (.cells #[.pointer none,.slice none 0 0] 120))) :=
  ⟨⟨_,Bs.new w1,fun g hg=>(by cases hg),fun j hj=>(by subst hj;exact HW1.out.size)⟩,ownM_nil _ _,HW1.out.trans ((ext_alloc w1 _).mono HW1.out.size)⟩
 clear HE
 go_loopg [7,9,27] n (fun kx s7 s9 s27 wr=>∃(k:Nat),s27=.int .i64 (k:Int)/\k<=n/\n-k<=kx/\s7=.int .i64 ((T0+tot (pb.take k):Nat):Int)/\Aside (La w pb T0 k w1.heap.size s9 wr))
 case atStart=>exact⟨0,rfl,by omega,by omega,rfl,H0⟩
 case round =>
  clear H0
  obtain⟨k,rfl,hk,hkx,rfl,H⟩:=hrel
  by_cases hlt:k<n
  ·obtain⟨ad,x,rfl,had,hx,hcell⟩:=str_at (HR.out.below H.out.below) hlt
   obtain⟨g1,g2,g3⟩:=HG.out x (List.mem_of_getElem? hx)
   have hz:=g3.size g1 g2
   have htk:=tot_take pb (k+1)
   rw[take_next hx,tot_snoc] at htk
   have HPk:=Lib.hid (fun wx=>g3.peek g1 g2 wx)
   have HPt:=Lib.hid (fun wx=>put_any 2 x.2 wx (by decide) hz.2)
   rw[show((2:UInt8).toNat:Int)=2 from rfl] at HPt
   have HX:=Lib.hid hx
   have hfs:(frB 2 x.2).size=x.2.size+9:=size_frB 2 x.2
   have hTe:=Lib.hid (show T0+tot (pb.take (k+1))=T0+tot (pb.take k)+(x.2.size+9) from by rw[take_next hx,tot_snoc];omega)
   have hcl:=Lib.hid (length_cat (pb.take k))
   have hll:=Lib.hid (length_lay (pb.take k) T0)
   have hkl:=Lib.hid (List.length_take_le k pb)
   have hmt:=Lib.hid (show mt1 (T0+tot (pb.take k)) x=⟨T0+tot (pb.take k),x.2.size+9,(joinB x.1).length,x.1.length,(at3 x.1 0).1.toNat,(at3 x.1 0).2.1.toNat,(at3 x.1 (x.1.length-1)).2.1.toNat⟩ from rfl)
   have htp:=HT.out
   have hw:wrap64 (((T0+tot (pb.take k):Nat):Int)+((frB 2 x.2).size:Int))=((T0+tot (pb.take k):Nat):Int)+((frB 2 x.2).size:Int):=by unfold wrap64;omega
   have HZ:=Lib.hid hz.2
   clear hx g1 g2 g3 hz htk htp
   generalize hTT:T0+tot (pb.take k)=T at *
   have HTT:=Lib.hid hTT
   clear hTT
   unfold magg at HPk
   generalize (joinB x.1).length=R at *
   generalize (at3 x.1 0).1.toNat=F1 at *
   generalize (at3 x.1 0).2.1.toNat=E1 at *
   generalize (at3 x.1 (x.1.length-1)).2.1.toNat=L1 at *
   generalize x.1.length=N at *
   have hfsz:=Lib.hid hfs
   clear hfs
   have H9:=Lib.hid H.out
   go_wp2_with (first
    |(go_at_call 36;refine(HPk.out _).mono ?_;rintro e2 w2 ⟨rfl,hb2⟩;have HB2:=Lib.hid hb2;have HM2:=Lib.hid (Blk.new w2 #[.int .i64 0,.int .i64 0,.int .i64 (R:Int),.int .i64 (N:Int),.int .i64 (F1:Int),.int .i64 (E1:Int),.int .i64 (L1:Int)] 39);clear hb2)
    |(go_at_call 85;refine(HPt.out _).mono ?_;rintro e3 w3 ⟨rfl,hb3⟩;have hbW3:=(HB2.out.trans ((ext_alloc w2 (.cells #[.int .i64 0,.int .i64 0,.int .i64 (R:Int),.int .i64 (N:Int),.int .i64 (F1:Int),.int .i64 (E1:Int),.int .i64 (L1:Int)] 39)).mono HB2.out.size)).trans (hb3.mono (Nat.le_trans HB2.out.size (by simp)));have HWS:=Lib.hid (fun u y=>H9.out.ext ((hbW3.setCell (p:=⟨w2.heap.size,0,none⟩) HB2.out.size u).setCell (p:=⟨w2.heap.size,1,none⟩) HB2.out.size y));have hm:=HM2.out.ext hb3;have m0:=hm.cell 0 (v:=.int .i64 0) rfl;have m1:=hm.cell 1 (v:=.int .i64 0) rfl;have m2:=hm.cell 2 (v:=.int .i64 (R:Int)) rfl;have m3:=hm.cell 3 (v:=.int .i64 (N:Int)) rfl;have m4:=hm.cell 4 (v:=.int .i64 (F1:Int)) rfl;have m5:=hm.cell 5 (v:=.int .i64 (E1:Int)) rfl;have m6:=hm.cell 6 (v:=.int .i64 (L1:Int)) rfl;have z0:=hm.fz 0;have z1:=hm.fz 1;clear hb3 hbW3 hm)
    |(at_builtin;go_loud (refine appendM (mt1 T x) (by rw[hmt.out]) (by rw[hmt.out,hfsz.out]) (by rw[hmt.out]) (by rw[hmt.out]) (by rw[hmt.out]) (by rw[hmt.out]) (by rw[hmt.out]) (HWS.out _ _).own (by have:=hll.out;have:=hkl.out;omega) (HWS.out _ _).below.size ?_ (hx:=by simp[Act.eval]));intro g5 cap w4 hown4 hg4 hat4;have HLB:=Lib.hid ((HWS.out _ _).app HX.out (by rw[HTT.out];exact hown4) hg4 hat4);clear hown4 hg4 hat4 m0 m1 m2 m3 m4 m5 m6 z0 z1)
    |(go_at_call 71;obtain⟨SB,hB1,hB2,hB3⟩:=HLB.out.bld;refine(write_gr SB _ _ (frB 2 x.2) _ hB1 (by have:=hcl.out;have:=HT.out;have:=tot_take pb k;have:=hfsz.out;have:=HZ.out;omega)).mono ?_;rintro e5 w5 ⟨rfl,S5,hB5,hG5⟩;have HN:Aside _:=Lb.write HLB.out.own HLB.out.below HX.out hB2 hB3 hB5 hG5;clear hB1 hB2 hB3 hB5 hG5))
   go_roundg (n-(k+1))
   case measure=>omega
   case rel=>exact⟨k+1,by go_num,by omega,by omega,by rw[hTe.out,hfsz.out];go_num,HN⟩
  ·have e:pb.take k=pb:=List.take_of_length_le (by have:=HL.out;omega)
   have hE:=H.out
   have HE:Aside _:=hE.own
   rw[e] at HE
   have HW:=Lib.hid hE.below
   obtain⟨SB,hB1,hB2,hB3⟩:=hE.bld
   rw[e] at hB1
   have HS:=Lib.hid (string_gr SB _ _ _ hB1 HC0.out)
   have HB:=Lib.hid (And.intro hB2 hB3)
   clear hE hB1 hB2 hB3 e H
   go_wp2_with (first
    |(go_at_call 72;refine HS.out.mono ?_;rintro e5 w5 ⟨rfl,hG5⟩;have HG5:=Lib.hid hG5;clear hG5))
   go_ret3
   exact⟨_,rfl,own_block HE.out fun g e=>HG5.out.block g (World.ownsRow.lt HE.out g e).2 (HB.out.1 g e),HW.out.trans (HG5.out.below HW.out.size HB.out.2)⟩
end
end Dk
end Go.Proofs.YtlnbjikooadmoaaGreat
namespace Go.Proofs.YtlnbjikooadmoaaGreat
namespace Dk
open Go.RowKit Hd Fm Sn Bk Rd Bd
theorem gr_add {S S':Nat->Prop} {w w':World} (h:Gr S w S' w') (E:Nat->Prop):Gr (fun k=>S k∨E k) w (fun k=>S' k∨E k) w' :=
 ⟨h.os,h.tape,h.output,h.size,fun k hk hn=>h.block k hk fun hs=>hn (.inl hs),fun k hk=>hk.elim (fun h'=>(h.sub k h').imp_left .inl) fun h'=>.inl (.inr h')⟩
section
variable {w w':World} {S:Nat->Prop} {bd:Nat} {D:DS}
set_option maxHeartbeats 1600000 in
theorem write1_go (h:DiskAt w S bd D) {bS bT:Nat} {i g f:Int} {s text:ByteArray} (hS:Blk w bS (sgc bd i g f s) 77) (hT:Blk w bT #[.string text] 9) {b:Nat} {p:ByteArray×ByteArray} (ho:D.off=false) (hl:lk s D.now=some b) (hp:D.fl b=some p)
  (h1:p.2.size+text.size<=1000000) (h2:(text.size:Int)+(usedD D:Int)<=D.cap) :
  Calls Tryz.prog 48 #[.pointer (some ⟨bS,0,none⟩),.pointer (some ⟨bT,0,none⟩)] w fun e w'=>e=.returned (.int .i64 (opE D))/\ ∃S',DiskAt w' S' bd (opS false (setF b (p.1,p.2++text)) D)/\Gr S w S' w':=by
 have HC:=Lib.hid (append_go h ho hl hp h1 h2)
 have k0:=hS.cell 0 (v:=.pointer (some ⟨bd,0,none⟩)) rfl
 have k4:=hS.cell 4 (v:=.string s) rfl
 have t0:=hT.cell 0 (v:=.string text) rfl
 clear h hS hT ho hl hp h1 h2
 go_enter Tryz.func48, Tryz.ntmps48
 go_wp2_with (go_at_call 28;refine HC.out.mono ?_;rintro e5 w5 ⟨rfl,S5,hD5,hG5⟩;have HD5:=Lib.hid (And.intro hD5 hG5);clear hD5 hG5)
 go_ret
 exact⟨rfl,S5,HD5.out⟩
set_option maxHeartbeats 3200000 in
set_option maxRecDepth 100000 in
theorem write2_go (h:DiskAt w S bd D) (hc:Calm D) {bS bL bE:Nat} {i g f:Nat} {s:ByteArray} {A:Option Addr} {n c:Nat} {l:List Mt} {x:Int} (hS:Blk w bS (sgc bd i g f s) 77) (hL:Blk w bL #[.slice A n c] 35) (hE:Blk w bE #[.int .i64 x] 3) (nE: ¬ S bE)
  (hh:1<=i/\i<=999999/\1<=g/\g<=999999/\1<=f/\f<=1000000000) (hrd:Rd w w.heap.size 7 A n (fl7 l)) (hn:n<=100000) (hok:okBl l=true)
  {b:Nat} {p:ByteArray×ByteArray} (hl:lk s D.now=some b) (hp:D.fl b=some p) (hb:(ftB l).size<=60000) (h1:p.2.size+((ftB l).size+9)<=1000000) (h2:((ftB l).size:Int)+9+(usedD D:Int)<=D.cap) (he:endM (hdrB i g f).size l<=2000000) :
  Calls Tryz.prog 49 #[.pointer (some ⟨bS,0,none⟩),.pointer (some ⟨bL,0,none⟩),.pointer (some ⟨bE,0,none⟩)] w fun e w'=>e=.returned (.int .i64 0)/\ ∃S',DiskAt w' S' bd (syncD b (p.2++frB 3 (ftB l)) (putD b p (frB 3 (ftB l)) D))/\Gr (fun k=>S k∨k=bE) w (fun k=>S' k∨k=bE) w'/\ ¬ S' bE /\
   Blk w' bE #[.int .i64 ((endM (hdrB i g f).size l+((ftB l).size+9):Nat):Int)] 3:=by
 have HC:=Lib.hid (seal_go h hc (c:=c) (s:=s) hh hrd hn hok hl hp hb h1 h2 he)
 unfold sgc at *
 have k0:=hS.cell 0 (v:=.pointer (some ⟨bd,0,none⟩)) rfl
 have k1:=hS.cell 1 (v:=.int .i64 (i:Int)) rfl
 have k2:=hS.cell 2 (v:=.int .i64 (g:Int)) rfl
 have k3:=hS.cell 3 (v:=.int .i64 (f:Int)) rfl
 have k4:=hS.cell 4 (v:=.string s) rfl
 have l0:=hL.cell 0 (v:=.slice A n c) rfl
 have HE:=Lib.hid hE
 have HN:=Lib.hid nE
 clear h hc hS hL hE nE hh hrd hn hok hl hp hb h1 h2 he
 generalize ((endM (hdrB i g f).size l+((ftB l).size+9):Nat):Int)=Z at *
 go_enter Tryz.func49, Tryz.ntmps49
 go_wp2_with (go_at_call 38;refine HC.out.mono ?_;rintro e5 w5 ⟨rfl,S5,hD5,hG5⟩;have HD5:=Lib.hid (And.intro hD5 hG5);have HE5:=Lib.hid (hG5.blk HE.out HN.out);have z0:=HE5.out.cell 0 (v:=.int .i64 x) rfl;have f0:=HE5.out.fz 0;clear hD5 hG5)
 go_ret
 have n5: ¬ S5 bE:=HD5.out.2.out HE.out.lt HN.out
 exact⟨rfl,S5,HD5.out.1.ownC n5 0 _,(gr_add HD5.out.2 (fun k=>k=bE)).trans (Gr.setCell (.inr rfl) 0 _),n5,HE5.out.put 0 _⟩
end
end Dk
end Go.Proofs.YtlnbjikooadmoaaGreat
namespace Go.Proofs.YtlnbjikooadmoaaGreat
namespace Dk
open Go.RowKit Hd Fm Sn Bk Rd Bd
def w2D (s hd txt:ByteArray) (b:Nat) (D:DS):DS:=putD b (⟨#[]⟩++hd,⟨#[]⟩++hd) txt (d3 s hd b D)
def w3D (s hd txt ft:ByteArray) (b:Nat) (D:DS):DS:=syncD b (⟨#[]⟩++hd++txt++ft) (putD b (⟨#[]⟩++hd,⟨#[]⟩++hd++txt) ft (w2D s hd txt b D))
theorem d3_now {s hd:ByteArray} {b:Nat} {D:DS} (hl:lk s D.now=none):(d3 s hd b D).now=D.now++[(s,b)]:=d1_now hl
theorem d3_lk {s hd:ByteArray} {b:Nat} {D:DS} (hl:lk s D.now=none):lk s (d3 s hd b D).now=some b:=by rw[d3_now hl,<-pt_new s b _ hl];exact lk_pt s b _
theorem fl_set (b:Nat) (p:ByteArray×ByteArray) (D:DS):(setF b p D).fl b=some p:=by show(if b=b then _ else _)=_;rw[if_pos rfl]
theorem used_one {D:DS} {s:ByteArray} {b:Nat} {l:List (ByteArray×Nat)} {p:ByteArray×ByteArray} (h:D.now=l++[(s,b)]) (hp:D.fl b=some p) (hn:∀x∈l,x.2≠b) (fl0:Nat->Option (ByteArray×ByteArray)) (he:∀k,k≠b->D.fl k=fl0 k):usedD D=szs fl0 l+p.2.size:=by
 unfold usedD
 rw[h,szs_append,szs,hp]
 have:∀l:List (ByteArray×Nat),(∀x∈l,x.2≠b)->szs D.fl l=szs fl0 l:=by
  intro l hl
  induction l with
  |nil=>rfl
  |cons x l ih=>rw[szs,szs,he _ (hl x (List.mem_cons_self ..)),ih fun y hy=>hl y (List.mem_cons_of_mem _ hy)]
 rw[this l hn]
 show _+(p.2.size+0)=_
 omega
theorem set_ne {b k:Nat} (p:ByteArray×ByteArray) (D:DS) (h:k≠b):(setF b p D).fl k=D.fl k:=by show(if k=b then _ else _)=_;rw[if_neg h]
section
variable {w w':World} {S:Nat->Prop} {bd:Nat} {D:DS}
theorem now_ne (hf:Fit D) {b:Nat} (hb:D.fl b=none):∀x∈D.now,x.2≠b:=fun x hx h=>hf.wfN x hx (by rw[h];exact hb)
theorem d3_used {s hd:ByteArray} {b:Nat} (hl:lk s D.now=none) (hf:Fit D) (hb:D.fl b=none):usedD (d3 s hd b D)=usedD D+hd.size:=by
 rw[used_one (d3_now hl) (fl_set b _ _) (now_ne hf hb) D.fl fun k hk=>by
  show(setF b _ _).fl k=_
  rw[set_ne _ _ hk]
  show(setF b _ _).fl k=_
  rw[set_ne _ _ hk]
  exact set_ne _ _ hk]
 show szs D.fl D.now+((⟨#[]⟩:ByteArray)++hd).size=_
 rw[ByteArray.size_append];show _+(0+_)=_;rw[Nat.zero_add];rfl
theorem w2_used {s hd txt:ByteArray} {b:Nat} (hl:lk s D.now=none) (hf:Fit D) (hb:D.fl b=none):usedD (w2D s hd txt b D)=usedD D+hd.size+txt.size:=by
 rw[used_one (D:=w2D s hd txt b D) (d3_now (hd:=hd) hl) (fl_set b _ _) (now_ne hf hb) D.fl fun k hk=>by
  show(setF b _ _).fl k=_
  rw[set_ne _ _ hk]
  show(setF b _ _).fl k=_
  rw[set_ne _ _ hk]
  show(setF b _ _).fl k=_
  rw[set_ne _ _ hk]
  exact set_ne _ _ hk]
 show szs D.fl D.now+((⟨#[]⟩:ByteArray)++hd++txt).size=_
 rw[ByteArray.size_append,ByteArray.size_append];show _+(0+_+_)=_;rw[Nat.zero_add,Nat.add_assoc];rfl
theorem calm_d3 (hc:Calm D) (s hd:ByteArray) (b:Nat):Calm (d3 s hd b D):=((((hc.setF b _).tick).chg _).tick.setF b _).tick.setF b _
set_option maxHeartbeats 1600000 in
theorem write_all (h:DiskAt w S bd D) (hc:Calm D) {bS bT bL bE gF:Nat} {i g f:Nat} {text:ByteArray} {A:Option Addr} {n c:Nat} {l:List Mt}
  (hS:Blk w bS (sgc bd i g f (segN i g)) 77) (hT:Blk w bT #[.string text] 9) (hL:Blk w bL #[.slice A n c] 35) (hE:Blk w bE #[.int .i64 0] 3)
  (hF:Blk w gF #[.func (.func 31) #[.agg (sgc bd i g f (segN i g))] #[],.func (.func 48) #[] #[.pointer (some ⟨bS,0,none⟩),.pointer (some ⟨bT,0,none⟩)],.func (.func 49) #[] #[.pointer (some ⟨bS,0,none⟩),.pointer (some ⟨bL,0,none⟩),.pointer (some ⟨bE,0,none⟩)]] 57)
  (nS: ¬ S bS) (nT: ¬ S bT) (nL: ¬ S bL) (nE: ¬ S bE) (nF: ¬ S gF) (eS:bS≠bE) (eT:bT≠bE) (eL:bL≠bE) (eF:gF≠bE)
  (hown:OwnM w 0 (.slice A n c) l) (ho:∀k,(Value.slice A n c).ownBlock=some k-> ¬ S k/\k≠bE)
  (hh:1<=i/\i<=999999/\1<=g/\g<=999999/\1<=f/\f<=1000000000) (hl:lk (segN i g) D.now=none) (hn:D.now.length<200) (hch:D.chg.length<=1000000) (hok:okBl l=true)
  (hft:(ftB l).size<=60000) (h1:36+text.size+((ftB l).size+9)<=1000000) (h2:(36:Int)+(text.size:Int)+((ftB l).size:Int)+9+(usedD D:Int)<=D.cap) (he:endM (hdrB i g f).size l<=2000000) :
  Calls Tryz.prog 47 #[.slice (some ⟨gF,0,none⟩) 3 3] w fun e w'=>e=.returned (.int .i64 0)/\ ∃b S',D.fl b=none/\DiskAt w' S' bd (w3D (segN i g) (hdrB i g f) text (frB 3 (ftB l)) b D)/\Gr (fun k=>S k∨k=bE) w (fun k=>S' k∨k=bE) w'/\Blk w' bE #[.int .i64 ((endM (hdrB i g f).size l+((ftB l).size+9):Nat):Int)] 3:=by
 have hfit:=h.fit
 have hbs:=hb_size i g f hh
 have hsz:(hdrB i g f).size=(hb i g f).size+9:=size_frB 1 (hb i g f)
 have hs:Nm.check (segN i g).data.toList=0:=Nm.check_seg i g
 have hn7:l.length=n:=by
  obtain⟨A',c',e,-,-,-⟩:=hown.rd
  cases e;rfl
 have hl1:l.length<=1000:=(okBl_row hok).1
 let R:Nat->DS->World->Prop:=fun k D' wx=>match k with
  |0=>D'=D/\Blk wx bE #[.int .i64 0] 3
  |1=>(∃b,D.fl b=none/\D'=d3 (segN i g) (hdrB i g f) b D)/\Blk wx bE #[.int .i64 0] 3
  |2=>(∃b,D.fl b=none/\D'=w2D (segN i g) (hdrB i g f) text b D)/\Blk wx bE #[.int .i64 0] 3
  |_=>(∃b,D.fl b=none/\D'=w3D (segN i g) (hdrB i g f) text (frB 3 (ftB l)) b D)/\Blk wx bE #[.int .i64 ((endM (hdrB i g f).size l+((ftB l).size+9):Nat):Int)] 3
 refine(all_any [(31,#[.agg (sgc bd i g f (segN i g))],#[]),(48,#[],#[.pointer (some ⟨bS,0,none⟩),.pointer (some ⟨bT,0,none⟩)]),(49,#[],#[.pointer (some ⟨bS,0,none⟩),.pointer (some ⟨bL,0,none⟩),.pointer (some ⟨bE,0,none⟩)])]
  (some ⟨gF,0,none⟩) 3 3 w (fun k wx=>∃S' D',Gr (fun k=>S k∨k=bE) w (fun k=>S' k∨k=bE) wx/\DiskAt wx S' bd D'/\ ¬ S' bE/\R k D' wx) (fun _ _=>False) (by omega) ?_ ⟨S,D,Gr.refl _ _,h,nE,rfl,hE⟩ ?_ ?_).mono ?_
 ·rintro k wx ⟨S',D',g1,-⟩
  exact rd_blk (g1.blk hF (by rintro (e|e);exact nF e;exact eF e))
 ·intro f' hf'
  simp only[List.mem_cons,List.not_mem_nil,or_false] at hf'
  rcases hf' with rfl|rfl|rfl
  ·exact enters_of Tryz.func31 (by kernel_rfl) rfl
  ·exact enters_of Tryz.func48 (by kernel_rfl) rfl
  ·exact enters_of Tryz.func49 (by kernel_rfl) rfl
 ·intro k f' hf' wx hJ
  obtain⟨S',D',g1,hD,nE',hR⟩:=hJ
  have bS':=g1.blk hS (by rintro (e|e);exact nS e;exact eS e)
  have bT':=g1.blk hT (by rintro (e|e);exact nT e;exact eT e)
  have bL':=g1.blk hL (by rintro (e|e);exact nL e;exact eL e)
  have hown':OwnM wx 0 (.slice A n c) l:=own_block hown fun k hk=>g1.block k (World.ownsRow.lt hown k hk).2 (by rintro (e|e);exact(ho k hk).1 e;exact(ho k hk).2 e)
  rcases k with _|_|_|k
  ·simp only[List.getElem?_cons_zero,Option.some.injEq] at hf'
   subst hf'
   obtain⟨rfl,hE'⟩:D'=D/\Blk wx bE #[.int .i64 0] 3:=hR
   refine(screate_go hD hc hh hs hl hn hch (by omega)).mono ?_
   rintro e w2 ⟨rfl,b,S2,hbn,hD2,g2⟩
   exact⟨0,rfl,.inl ⟨rfl,S2,_,g1.trans (gr_add g2 _),hD2,g2.out hE'.lt nE',⟨b,hbn,rfl⟩,g2.blk hE' nE'⟩⟩
  ·simp only[List.getElem?_cons_succ,List.getElem?_cons_zero,Option.some.injEq] at hf'
   subst hf'
   obtain⟨⟨b,hbn,rfl⟩,hE'⟩:(∃b,D.fl b=none/\D'=d3 (segN i g) (hdrB i g f) b D)/\Blk wx bE #[.int .i64 0] 3:=hR
   have c1:=calm_d3 hc (segN i g) (hdrB i g f) b
   refine(write1_go hD bS' bT' (b:=b) (p:=((⟨#[]⟩:ByteArray)++hdrB i g f,(⟨#[]⟩:ByteArray)++hdrB i g f)) c1.off (d3_lk (hd:=hdrB i g f) hl) (fl_set b _ _) ?_ ?_).mono ?_
   ·show((⟨#[]⟩:ByteArray)++hdrB i g f).size+_<=_
    rw[ByteArray.size_append];show 0+_+_<=_;omega
   ·rw[d3_used hl hfit hbn]
    show _<=D.cap
    push_cast;omega
   rintro e w2 ⟨rfl,S2,hD2,g2⟩
   refine⟨0,by rw[c1.e],.inl ⟨rfl,S2,_,g1.trans (gr_add g2 _),hD2,g2.out hE'.lt nE',⟨b,hbn,?_⟩,g2.blk hE' nE'⟩⟩
   rw[opS_calm c1];rfl
  ·simp only[List.getElem?_cons_succ,List.getElem?_cons_zero,Option.some.injEq] at hf'
   subst hf'
   obtain⟨⟨b,hbn,rfl⟩,hE'⟩:(∃b,D.fl b=none/\D'=w2D (segN i g) (hdrB i g f) text b D)/\Blk wx bE #[.int .i64 0] 3:=hR
   have c1:Calm (w2D (segN i g) (hdrB i g f) text b D):=(calm_d3 hc (segN i g) (hdrB i g f) b).tick.setF b _
   obtain⟨A',c',ev,-,-,hr⟩:=hown'.rd
   cases ev
   refine(write2_go hD c1 bS' bL' hE' nE' hh (by rw[<-hn7] at *;exact hr) (by omega) hok (b:=b) (p:=((⟨#[]⟩:ByteArray)++hdrB i g f,(⟨#[]⟩:ByteArray)++hdrB i g f++text)) (d3_lk (hd:=hdrB i g f) hl) (fl_set b _ _) hft ?_ ?_ he).mono ?_
   ·show((⟨#[]⟩:ByteArray)++hdrB i g f++text).size+_<=_
    rw[ByteArray.size_append,ByteArray.size_append];show 0+_+_+_<=_;omega
   ·rw[w2_used hl hfit hbn]
    show _<=D.cap
    push_cast;omega
   rintro e w2 ⟨rfl,S2,hD2,g2,n2,hE2⟩
   exact⟨0,rfl,.inl ⟨rfl,S2,_,g1.trans g2,hD2,n2,⟨b,hbn,rfl⟩,hE2⟩⟩
  ·simp at hf'
 ·rintro e w' ⟨x,rfl,⟨rfl,S',D',g1,hD,nE',⟨b,hbn,rfl⟩,hE'⟩|⟨-,hF⟩⟩
  ·exact⟨rfl,b,S',hbn,hD,g1,hE'⟩
  ·exact hF.elim
end
end Dk
end Go.Proofs.YtlnbjikooadmoaaGreat
namespace Go.Proofs.YtlnbjikooadmoaaGreat
namespace Dk
open Go.RowKit Hd Fm Sn Bk Rd Bd
section
variable {w w':World} {S:Nat->Prop} {bd:Nat} {D:DS}
theorem four_new (w1:World) (l:Value) (text:ByteArray):let w2:=((w1.alloc (.cells #[l] 35)).alloc (.cells #[.string text] 9)).alloc (.cells #[.int .i64 0] 3)
  Blk w2 w1.heap.size #[l] 35/\Blk w2 (w1.heap.size+1) #[.string text] 9/\Blk w2 (w1.heap.size+1+1) #[.int .i64 0] 3/\Below w1.heap.size w1 w2/\w2.heap.size=w1.heap.size+1+1+1:=by
 intro w2
 have s1:(w1.alloc (.cells #[l] 35)).heap.size=w1.heap.size+1:=by simp
 refine⟨((Blk.new w1 _ _).alloc _).alloc _,(blk_second w1 _ _ _).alloc _,?_,?_,by simp[w2]⟩
 ·have:=blk_second (w1.alloc (.cells #[l] 35)) (.cells #[.string text] 9) #[.int .i64 0] 3
  rwa [s1] at this
 ·exact(ext_second w1 _ _).trans ((ext_alloc _ _).mono (by simp;omega))
set_option maxHeartbeats 6400000 in
set_option maxRecDepth 100000 in
theorem Write_go (h:DiskAt w S bd D) (hc:Calm D) {i g f:Nat} {A:Option Addr} {n c:Nat} {pb:List Pb} (hrd:Rd w w.heap.size 1 A n (pb.map fun x=>.string x.2)) (hn:n<=1000) (hne:pb≠ []) (hgd:Good pb) (ht:tot pb<=900000)
  (hh:1<=i/\i<=999999/\1<=g/\g<=999999/\1<=f/\f<=1000000000) (hl:lk (segN i g) D.now=none) (hnw:D.now.length<200) (hch:D.chg.length<=1000000) (hok:okBl (lay (hdrB i g f).size pb)=true)
  (hft:(ftB (lay (hdrB i g f).size pb)).size<=60000) (h2:(36:Int)+(tot pb:Int)+((ftB (lay (hdrB i g f).size pb)).size:Int)+9+(usedD D:Int)<=D.cap) (he:endM (hdrB i g f).size (lay (hdrB i g f).size pb)<=2000000) :
  Calls Tryz.prog 16 #[.pointer (some ⟨bd,0,none⟩),.agg #[.int .i64 (i:Int),.int .i64 (g:Int),.int .i64 (f:Int)],.slice A n c] w fun e w' =>
   ∃v,e=.returned (.tuple #[v,.int .i64 ((endM (hdrB i g f).size (lay (hdrB i g f).size pb)+((ftB (lay (hdrB i g f).size pb)).size+9):Nat):Int),.int .i64 0])/\OwnM w' w.heap.size v (lay (hdrB i g f).size pb)/\(∀k,v.ownBlock=some k->w.heap.size<=k) /\
    ∃b S',D.fl b=none/\DiskAt w' S' bd (w3D (segN i g) (hdrB i g f) ⟨(cat pb).toArray⟩ (frB 3 (ftB (lay (hdrB i g f).size pb))) b D)/\Gr S w S' w'/\(∀k,v.ownBlock=some k-> ¬ S' k):=by
 have mixed:Tryz.prog.follows .mixedOrders=true:=by kernel_rfl
 have hn0:0<n:=by
  have:=hrd.len
  rcases pb with _|⟨x,l⟩
  ·exact absurd rfl hne
  ·simp at this;omega
 have hn1: ¬ (n:Int)>1000:=by omega
 have hn2:((n:Int)==0)=false:=by rw[beq_eq_false_iff_ne];omega
 have HO:=Lib.hid (fun w=>of_ok (bd:=bd) (i:Int) (g:Int) (f:Int) w (by simp only[okH,decide_eq_true_eq];omega))
 have HLD:=Lib.hid (fun wx (hx:Below w.heap.size w wx)=>laid_ok (bd:=bd) (c:=c) (s:=segN i g) hh (hrd.ext hx) hn hne hgd (by omega))
 have hsz:(⟨(cat pb).toArray⟩:ByteArray).size=tot pb:=by
  show(cat pb).toArray.size=_
  rw[List.size_toArray,length_cat]
 have HN:=Lib.hid (show ∀k,w.heap.size<=k-> ¬ S k from fun k hk=>h.gt hk)
 have HA:=Lib.hid (show ∀(A':Option Addr) (n' c' bS:Nat) (w1 w3:World),Below w.heap.size w w1->Blk w1 bS (sgc bd i g f (segN i g)) 77->w.heap.size<=bS->OwnM w1 w.heap.size (.slice A' n' c') (lay (hdrB i g f).size pb) ->
   w3=(((w1.alloc (.cells #[.slice A' n' c'] 35)).alloc (.cells #[.string ⟨(cat pb).toArray⟩] 9)).alloc (.cells #[.int .i64 0] 3)).alloc (.cells #[.func (.func 31) #[.agg (sgc bd i g f (segN i g))] #[],.func (.func 48) #[] #[.pointer (some ⟨bS,0,none⟩),.pointer (some ⟨w1.heap.size+1,0,none⟩)],.func (.func 49) #[] #[.pointer (some ⟨bS,0,none⟩),.pointer (some ⟨w1.heap.size,0,none⟩),.pointer (some ⟨w1.heap.size+1+1,0,none⟩)]] 57) ->
   Calls Tryz.prog 47 #[.slice (some ⟨w1.heap.size+1+1+1,0,none⟩) 3 3] w3 fun e w'=>e=.returned (.int .i64 0)/\ ∃b S',D.fl b=none/\DiskAt w' S' bd (w3D (segN i g) (hdrB i g f) ⟨(cat pb).toArray⟩ (frB 3 (ftB (lay (hdrB i g f).size pb))) b D)/\Gr S w S' w' /\
    Blk w' w1.heap.size #[.slice A' n' c'] 35/\Blk w' (w1.heap.size+1+1) #[.int .i64 ((endM (hdrB i g f).size (lay (hdrB i g f).size pb)+((ftB (lay (hdrB i g f).size pb)).size+9):Nat):Int)] 3/\OwnM w' w.heap.size (.slice A' n' c') (lay (hdrB i g f).size pb)/\ ∀k,(Value.slice A' n' c').ownBlock=some k-> ¬ S' k from by
  rintro A' n' c' bS w1 w3 hb1 hS hbS hown rfl
  obtain⟨b1,b2,b3,hb4,hs4⟩:=four_new w1 (.slice A' n' c') ⟨(cat pb).toArray⟩
  generalize ((w1.alloc (.cells #[.slice A' n' c'] 35)).alloc (.cells #[.string ⟨(cat pb).toArray⟩] 9)).alloc (.cells #[.int .i64 0] 3)=w4 at *
  rw[<-hs4]
  have e5:=ext_alloc w4 (.cells #[.func (.func 31) #[.agg (sgc bd i g f (segN i g))] #[],.func (.func 48) #[] #[.pointer (some ⟨bS,0,none⟩),.pointer (some ⟨w1.heap.size+1,0,none⟩)],.func (.func 49) #[] #[.pointer (some ⟨bS,0,none⟩),.pointer (some ⟨w1.heap.size,0,none⟩),.pointer (some ⟨w1.heap.size+1+1,0,none⟩)]] 57)
  have s1:w.heap.size<=w1.heap.size:=hb1.size
  have e6:=hb4.trans (e5.mono hb4.size)
  have e7:=hb1.trans (e6.mono s1)
  have lS:=hS.lt
  have hown5:=hown.below e6 (Nat.le_refl _)
  refine(write_all (h.ext e7) hc (hS.ext e6) (b2.ext e5) (b1.ext e5) (b3.ext e5) (Blk.new w4 _ _) (HN.out _ hbS) (HN.out _ (by omega)) (HN.out _ (by omega)) (HN.out _ (by omega)) (HN.out _ (by omega)) (by omega) (by omega) (by omega) (by omega)
   (hown5.lower (Nat.zero_le _)) (fun k hk=>⟨HN.out _ (World.ownsRow.lt hown k hk).1,by have:=(World.ownsRow.lt hown k hk).2;omega⟩) hh hl hnw hch hok hft (by rw[hsz];omega) (by rw[hsz];omega) he).mono ?_
  rintro e w' ⟨rfl,b,S',q1,q2,q3,q4⟩
  have hk:∀k,(Value.slice A' n' c').ownBlock=some k->k<w4.heap.size/\ ¬ S k/\k≠w1.heap.size+1+1:=fun k hk=>by
   have:=World.ownsRow.lt hown k hk
   exact⟨by omega,HN.out _ this.1,by omega⟩
  have s5:(w4.alloc (.cells #[.func (.func 31) #[.agg (sgc bd i g f (segN i g))] #[],.func (.func 48) #[] #[.pointer (some ⟨bS,0,none⟩),.pointer (some ⟨w1.heap.size+1,0,none⟩)],.func (.func 49) #[] #[.pointer (some ⟨bS,0,none⟩),.pointer (some ⟨w1.heap.size,0,none⟩),.pointer (some ⟨w1.heap.size+1+1,0,none⟩)]] 57)).heap.size=w4.heap.size+1:=by simp
  refine⟨rfl,b,S',q1,q2,?_,q3.blk (b1.ext e5) (by rintro (e|e);exact HN.out _ s1 e;omega),q4,own_block hown5 fun k hk'=>q3.block k (by have:=(hk k hk').1;omega) (by rintro (e|e);exact(hk k hk').2.1 e;exact(hk k hk').2.2 e),fun k hk' hs=>?_⟩
  ·have q5:=(Gr.of_below (S:=fun k=>S k∨k=w1.heap.size+1+1) e7).trans q3
   exact⟨q5.os,q5.tape,q5.output,q5.size,fun k hk hn=>q5.block k hk (by rintro (e|e);exact hn e;omega),fun k hk=>by
    rcases q5.sub k (.inl hk) with (e|e)|e
    ·exact .inl e
    ·exact .inr (by omega)
    ·exact .inr e⟩
  ·rcases q3.sub k (.inl hs) with (e|e)|e
   ·exact(hk k hk').2.1 e
   ·exact(hk k hk').2.2 e
   ·have:=(hk k hk').1;omega)
 clear h hc hrd hn hne hgd ht hh hl hnw hch hok hft h2 he hsz
 unfold sgc at *
 generalize segN i g=s at *
 generalize ((endM (hdrB i g f).size (lay (hdrB i g f).size pb)+((ftB (lay (hdrB i g f).size pb)).size+9):Nat):Int)=Z at *
 generalize frB 3 (ftB (lay (hdrB i g f).size pb))=FT at *
 generalize hdrB i g f=HD at *
 generalize lay HD.size pb=L at *
 generalize (⟨(cat pb).toArray⟩:ByteArray)=TX at *
 have B2:=ext_alloc w (.cells #[.int .i64 (i:Int),.int .i64 (g:Int),.int .i64 (f:Int)] 33)
 go_enter Tryz.func16, Tryz.ntmps16
 go_wp2_with (first
  |(go_at_call 30;refine(HO.out _).mono ?_;rintro e1 w1 ⟨rfl,hb1⟩;have HW1:=Lib.hid (B2.trans (hb1.mono B2.size));clear hb1 B2;have HW2:=Lib.hid (HW1.out.trans ((ext_alloc w1 (.cells #[.pointer (some ⟨bd,0,none⟩),.int .i64 i,.int .i64 g,.int .i64 f,.string s] 77)).mono HW1.out.size));have HS2:=Lib.hid (Blk.new w1 #[.pointer (some ⟨bd,0,none⟩),.int .i64 i,.int .i64 g,.int .i64 f,.string s] 77))
  |(go_at_call 46;refine(HLD.out _ HW2.out).mono ?_;rintro e2 w2 ⟨v,rfl,hown,hb2⟩;obtain⟨A',c',rfl,-,-,-⟩:=hown.rd;have HW3:=Lib.hid (HW2.out.trans (hb2.mono HW2.out.size));have HS3:=Lib.hid (HS2.out.ext hb2);have HN3:=Lib.hid (hown.lower HW2.out.size);clear hb2 hown)
  |(refine wpList_load_row rfl 77 (.tmp 9) rfl w1.heap.size #[.pointer (some ⟨bd,0,none⟩),.int .i64 i,.int .i64 g,.int .i64 f,.string s] _ (by simp[go_sem,Act.eval]) (((HS3.out.alloc _).alloc _).alloc _) Tryz.underlying77 rfl sg_info ?_)
  |(go_at_call 47;refine(HA.out A' L.length c' w1.heap.size w2 _ HW3.out HS3.out HW1.out.size HN3.out rfl).mono ?_;rintro e5 w5 ⟨rfl,b,S5,q1,q2,q3,q4,q5,q6,q7⟩;have HD5:=Lib.hid (And.intro q1 (And.intro q2 (And.intro q3 q7)));have HQ6:=Lib.hid q6;have y0:=q4.cell 0 (v:=.slice A' L.length c') rfl;have z0:=q5.cell 0 (v:=.int .i64 Z) rfl;clear q1 q2 q3 q4 q5 q6 q7))
 go_region
 all_goals
  go_wp2_with fail
  go_ret3
  exact⟨_,rfl,HQ6.out,fun k hk=>(World.ownsRow.lt HQ6.out k hk).1,b,S5,HD5.out.1,HD5.out.2.1.ext ⟨rfl,rfl,rfl,Nat.le_refl _,fun _ _=>rfl⟩,HD5.out.2.2.1.trans (Gr.of_below ⟨rfl,rfl,rfl,Nat.le_refl _,fun _ _=>rfl⟩),HD5.out.2.2.2⟩
end
end Dk
end Go.Proofs.YtlnbjikooadmoaaGreat
namespace Go.Proofs.YtlnbjikooadmoaaGreat
namespace Dk
open Go.RowKit Hd Fm Sn Bk Rd Bd
theorem sorted_unique {s:List UInt8} {A B:List Nat} (h1:Sx.Sorted s A) (h2:Sx.Sorted s B):A=B :=
 List.Perm.eq_of_pairwise (fun _ _ _ _ hab hba=>absurd (Sx.less_trans hab hba) Sx.less_irrefl) h1.srt h2.srt (h1.perm.trans h2.perm.symm)
theorem blkOf_unique {l:List (Int×Int×ByteArray)} {B B':ByteArray} (h:BlkOf l B) (h':BlkOf l B'):B=B':=by
 obtain⟨a,h1,h2⟩:=h
 obtain⟨a',h3,h4⟩:=h'
 rw[sorted_unique h3 h1] at h4
 exact ba_ext (by rw[h2,h4])
theorem good_unique:∀{pb pb':List Pb},Good pb->Good pb'->pb.map (·.1)=pb'.map (·.1)->pb=pb'
 | [],[],_,_,_=>rfl
 | [],_::_,_,_,h=>by simp at h
 |_::_,[],_,_,h=>by simp at h
 |x::l,y::l',h,h',e=>by
  simp only[List.map_cons,List.cons.injEq] at e
  obtain⟨R,B⟩:=x
  obtain⟨R',B'⟩:=y
  dsimp only at e
  obtain⟨rfl,e⟩:=e
  have h1:=(h (R,B) (List.mem_cons_self ..)).2.2
  have h2:=(h' (R,B') (List.mem_cons_self ..)).2.2
  have h3:=blkOf_unique h1 h2
  dsimp only at h3
  rw[h3,good_unique (fun z hz=>h z (List.mem_cons_of_mem _ hz)) (fun z hz=>h' z (List.mem_cons_of_mem _ hz)) e]
structure One (D:DS) (b:Nat) (s:ByteArray) (p:ByteArray×ByteArray):Prop where
 calm:Calm D
 now:D.now=[(s,b)]
 fl:D.fl b=some p
 cap:D.cap=1000000
theorem One.lk {D:DS} {b:Nat} {s:ByteArray} {p:ByteArray×ByteArray} (h:One D b s p):lk s D.now=some b:=by rw[h.now,lk_cons,if_pos rfl]
theorem One.used {D:DS} {b:Nat} {s:ByteArray} {p:ByteArray×ByteArray} (h:One D b s p):usedD D=p.2.size:=by
 unfold usedD
 rw[h.now,szs,szs,h.fl];rfl
theorem One.put {D:DS} {b:Nat} {s:ByteArray} {p:ByteArray×ByteArray} (h:One D b s p) (F:ByteArray):One (putD b p F D) b s (p.1,p.2++F):=⟨h.calm.tick.setF b _,h.now,fl_set b _ _,h.cap⟩
theorem One.sync {D:DS} {b:Nat} {s T:ByteArray} {p:ByteArray×ByteArray} (h:One D b s p):One (syncD b T D) b s (T,T):=⟨h.calm.tick.setF b _,h.now,fl_set b _ _,h.cap⟩
theorem One.read {D:DS} {b:Nat} {s:ByteArray} {p:ByteArray×ByteArray} (h:One D b s p):readP D s=(p.2,0):=by
 unfold readP
 rw[h.calm.off,h.lk]
 simp[h.fl]
theorem one_new (s hd:ByteArray) (b:Nat):One (d3 s hd b (newD 1000000)) b s (⟨#[]⟩++hd,⟨#[]⟩++hd) :=
 ⟨calm_d3 ⟨rfl,rfl⟩ s hd b,d3_now (D:=newD 1000000) rfl,fl_set b _ _,rfl⟩
theorem emp_app (x:ByteArray):(⟨#[]⟩:ByteArray)++x=x:=ba_ext (by simp)
def fileB (hd:ByteArray) (pb:List Pb):ByteArray:=hd++⟨(cat pb).toArray⟩
theorem fileB_nil (hd:ByteArray):fileB hd []=hd:=ba_ext (by simp[fileB,cat])
theorem fileB_snoc (hd:ByteArray) (pb:List Pb) (x:Pb):fileB hd (pb++[x])=fileB hd pb++frB 2 x.2:=ba_ext (by simp[fileB,cat_snoc])
theorem fileB_size (hd:ByteArray) (pb:List Pb):(fileB hd pb).size=hd.size+tot pb:=by
 unfold fileB
 rw[ByteArray.size_append]
 show _+(cat pb).toArray.size=_
 rw[List.size_toArray,length_cat]
theorem endM_lay (H:Nat):∀pb:List Pb,endM H (lay H pb)=H+tot pb:=by
 intro pb
 rcases List.eq_nil_or_concat pb with rfl|⟨l,x,rfl⟩
 ·simp[lay,endM,tot]
 ·rw[List.concat_eq_append,lay_snoc,tot_snoc]
  unfold endM
  rw[List.getLast?_append]
  simp only[List.getLast?_singleton,Option.some_or]
  unfold mt1 mtOf
  dsimp only
  omega
theorem row_pre:∀(A:List (Int×Int×ByteArray)) (p:Option (Int×Int×ByteArray)) (B:List (Int×Int×ByteArray)),rowE p (A++B)=0->rowE p A=0
 | [],_,_,_=>rfl
 |x::A,p,B,h=>by
  rw[List.cons_append,rowE] at h
  rw[rowE]
  split at h;·simp at h
  rename_i h1
  split at h;·simp at h
  rename_i h2
  rw[if_neg h1,if_neg h2]
  exact row_pre A (some x) B h
def fls (pb:List Pb):List (Int×Int×ByteArray):=(pb.map (·.1)).flatten
theorem fls_snoc (pb:List Pb) (x:Pb):fls (pb++[x])=fls pb++x.1:=by unfold fls;rw[List.map_append,List.flatten_append];simp
theorem at3_app {A B:List (Int×Int×ByteArray)} (h:B≠ []):(A++B)[A.length]? =some (at3 B 0):=by
 rw[List.getElem?_append_right (Nat.le_refl _),Nat.sub_self]
 exact at3_get B 0 (List.length_pos_iff.2 h)
theorem at3_pre {A B:List (Int×Int×ByteArray)} (h:A≠ []):at3 (A++B) 0=at3 A 0:=by
 rcases A with _|⟨x,A⟩
 ·exact absurd rfl h
 ·rfl
theorem extract_all (s:ByteArray) (n:Nat) (h:n=s.size):s.extract 0 n=s:=by
 subst h
 refine ba_ext ?_
 rw[ext_list,List.drop_zero,Nat.sub_zero,<-size_list,List.take_length]
theorem run_lay (F:Nat) (hd:ByteArray):∀pb:List Pb,Good pb->rowE none (fls pb)=0->(pb≠ []->(at3 (fls pb) 0).1=(F:Int))->pb.length<=1000->hd.size+tot pb<=1000000 ->
  rn F (fileB hd pb) [] hd.size=(lay hd.size pb,hd.size+tot pb)/\(nextM F (lay hd.size pb)=F+(fls pb).length)/\ ∀r,(fls pb).getLast? =some r->r.2.1=(lateM (lay hd.size pb):Nat):=by
 intro pb
 induction hN:pb.length generalizing pb with
 |zero =>
  have:pb=[]:=List.eq_nil_of_length_eq_zero hN
  subst this
  intro _ _ _ _ _
  refine⟨?_,rfl,fun r hr=>by cases hr⟩
  rw[fileB_nil]
  exact rn_end F hd [] hd.size (Nat.le_refl _)
 |succ N ih =>
  rcases List.eq_nil_or_concat pb with rfl|⟨l,x,rfl⟩
  ·simp at hN
  ·intro hg hr hf hl ht
   rw[List.concat_eq_append] at *
   rw[fls_snoc] at hr hf
   rw[tot_snoc] at ht
   have hgl:Good l:=fun z hz=>hg z (List.mem_append_left _ hz)
   obtain⟨g1,g2,A,g3,g4⟩:=hg x (List.mem_append_right _ (List.mem_singleton_self x))
   have hln:l.length=N:=by simp at hN;omega
   have hfl:l≠ []->fls l≠ []:=by
    intro hl0 e
    rcases l with _|⟨y,l⟩
    ·exact hl0 rfl
    ·have:=(hgl y (List.mem_cons_self ..)).2.1
     unfold fls at e
     simp only[List.map_cons,List.flatten_cons,List.append_eq_nil_iff] at e
     exact this e.1
   obtain⟨i1,i2,i3⟩:=ih l hln hgl (row_pre _ _ _ hr) (fun hl0=>by rw[<-at3_pre (B:=x.1) (hfl hl0)];exact hf (by simp)) (by omega) (by omega)
   have hF0:(at3 (fls l++x.1) 0).1=(F:Int):=hf (by simp)
   have e1:=row_seq0 _ hr (fls l).length _ (at3_app g2)
   have hrx:=row_seq0 _ (jE_row g1).1
   have hx0:0<x.1.length:=List.length_pos_iff.2 g2
   have hok:=(ok1_iff _).1 e1.2.2.1
   have hsz:(fileB hd l).size=hd.size+tot l:=fileB_size hd l
   have hn:(at3 x.1 0).1.toNat=nextM F (lay hd.size l):=by rw[i2];omega
   have htk:lateM (lay hd.size l)<=(at3 x.1 0).2.1.toNat:=by
    rcases hlast:(fls l).getLast? with _|r
    ·have e0:fls l=[]:=List.getLast?_eq_none_iff.1 hlast
     rcases l with _|⟨y,l'⟩
     ·exact Nat.zero_le _
     ·exact absurd e0 (hfl (by simp))
    ·have hi:=i3 r hlast
     have hp:0<(fls l).length:=by
      rcases hq:fls l with _|⟨z,q⟩
      ·rw[hq] at hlast;cases hlast
      ·simp
     have hr1:(fls l++x.1)[(fls l).length-1]? =some r:=by
      rw[List.getElem?_append_left (by omega),<-List.getLast?_eq_getElem?];exact hlast
     have:=(row_seq0 _ hr _ _ hr1).2.2.2 (fls l).length _ (by omega) (at3_app g2)
     omega
   have hend:=ends g1 g2
   have hmore:=rn_more (h1:=F) (e0:=hd.size) (s:=fileB hd l) (B:=x.2) (A:=A) (R:=x.1) (F:=(at3 x.1 0).1.toNat) (E:=(at3 x.1 0).2.1.toNat) (L:=(at3 x.1 (x.1.length-1)).2.1.toNat) (by omega) (by omega) g4 g1 g2 g3 (by omega) (by omega) (by omega) (by rw[i1];dsimp only;rw[length_lay];omega) (by rw[i1];exact hn) (by rw[i1];exact htk)
   rw[i1] at hmore
   dsimp only at hmore
   rw[extract_all _ _ hsz.symm] at hmore
   refine⟨?_,?_,?_⟩
   ·rw[fileB_snoc,hmore,lay_snoc,tot_snoc]
    show(lay hd.size l++[mt1 (hd.size+tot l) x],_)=_
    rw[Nat.add_assoc]
   ·rw[lay_snoc,nextM_snoc,fls_snoc,List.length_append]
    show(at3 x.1 0).1.toNat+x.1.length=_
    rw[hn,i2];omega
   ·intro r hr'
    rw[fls_snoc,List.getLast?_append,getLast_at3 g2] at hr'
    cases hr'
    rw[lay_snoc,lateM_snoc]
    show _=(((at3 x.1 (x.1.length-1)).2.1.toNat:Nat):Int)
    omega
def sealB (hd:ByteArray) (pb:List Pb):ByteArray:=fileB hd pb++frB 3 (ftB (lay hd.size pb))
theorem lay_ok {F:Nat} {hd:ByteArray} {pb:List Pb} (hg:Good pb) (hr:rowE none (fls pb)=0) (hf:pb≠ []->(at3 (fls pb) 0).1=(F:Int)) (hl:pb.length<=1000) (ht:hd.size+tot pb<=1000000) :
  St hd.size (fileB hd pb) (lay hd.size pb) (hd.size+tot pb)/\RowSt F (fileB hd pb) (lay hd.size pb):=by
 obtain⟨h1,-⟩:=run_lay F hd pb hg hr hf hl ht
 have h2:=St_rn F hd.size (fileB hd pb) [] hd.size (St_nil _ _)
 have h3:=Row_rn F (fileB hd pb) [] hd.size (Row_nil _ _)
 rw[h1] at h2 h3
 exact⟨h2,h3⟩
theorem okBl_lay {F:Nat} {hd:ByteArray} {pb:List Pb} (hg:Good pb) (hr:rowE none (fls pb)=0) (hf:pb≠ []->(at3 (fls pb) 0).1=(F:Int)) (hl:pb.length<=1000) (ht:hd.size+tot pb<=1000000):okBl (lay hd.size pb)=true:=by
 obtain⟨⟨s1,s2,-⟩,-⟩:=lay_ok hg hr hf hl ht
 unfold okBl
 rw[s1,Bool.and_true,decide_eq_true_eq];exact s2
theorem sealed_lay {i g F:Nat} {pb:List Pb} (hh:1<=i/\i<=999999/\1<=g/\g<=999999/\1<=F/\F<=1000000000) (hg:Good pb) (hr:rowE none (fls pb)=0) (hf:pb≠ []->(at3 (fls pb) 0).1=(F:Int)) (hl:pb.length<=1000) (ht:(hdrB i g F).size+tot pb<=1000000) (hne:pb≠ []) (hft:(ftB (lay (hdrB i g F).size pb)).size<=60000) :
  tl (sealB (hdrB i g F) pb) i g F=some (lay (hdrB i g F).size pb,(hdrB i g F).size+tot pb)/\Slx (sealB (hdrB i g F) pb) (lay (hdrB i g F).size pb) ((hdrB i g F).size+tot pb):=by
 obtain⟨h1,-⟩:=run_lay F (hdrB i g F) pb hg hr hf hl ht
 have hsz:=fileB_size (hdrB i g F) pb
 obtain⟨q1,q2⟩:=GF_put (fileB (hdrB i g F) pb) 3 (ftB (lay (hdrB i g F).size pb)) (by decide) hft
 rw[hsz] at q1 q2
 have hag:Agree (fileB (hdrB i g F) pb) (sealB (hdrB i g F) pb) ((hdrB i g F).size+tot pb):=by
  have:=agree_app (fileB (hdrB i g F) pb) (frB 3 (ftB (lay (hdrB i g F).size pb))) ((hdrB i g F).size+tot pb) (by omega)
  rwa [extract_all _ _ hsz.symm] at this
 have hpre:preB (sealB (hdrB i g F) pb) (hdrB i g F)=true:=by
  rw[preB_iff]
  rw[<-hag.extract (a:=0) (b:=(hdrB i g F).size) (by omega)]
  refine ba_ext ?_
  rw[ext_list,List.drop_zero,Nat.sub_zero]
  unfold fileB
  rw[ByteArray.data_append,Array.toList_append,List.take_append_of_le_length (by rw[size_list];omega),<-size_list,List.take_length]
 have hsl:Slx (sealB (hdrB i g F) pb) (lay (hdrB i g F).size pb) ((hdrB i g F).size+tot pb):=by
  refine⟨?_,q1,?_⟩
  ·rcases pb with _|⟨x,l⟩
   ·exact absurd rfl hne
   ·simp[lay]
  ·show fr (sealB (hdrB i g F) pb) _=_
   unfold sealB
   rw[q2,ByteArray.size_append,size_frB,hsz];rfl
 refine⟨?_,hsl⟩
 unfold tl
 rw[if_pos ⟨by simp only[okH,decide_eq_true_eq];omega,by simpa using hpre⟩]
 simp only[Int.toNat_natCast]
 have hto:=rn_to F (fileB (hdrB i g F) pb) (sealB (hdrB i g F) pb) _ hag [] (hdrB i g F).size (by rw[h1];exact Nat.le_refl _)
 rw[hto,h1]
 dsimp only
 rw[rn_stop fun _=>?_]
 rw[hsl.2.2]
 unfold good metaF
 split
 ·rfl
 ·rename_i m hm
  split at hm
  ·split at hm
   ·rename_i h3
    have h4:(3:Nat)=2:=h3
    omega
   ·cases hm
  ·cases hm
theorem agree_trans {s t u:ByteArray} {m:Nat} (h:Agree s t m) (k:Agree t u m):Agree s u m:=⟨h.1,k.2.1,h.2.2.trans k.2.2⟩
theorem recs_lay (hd:ByteArray) (s:ByteArray):∀pb:List Pb,Good pb->Agree (fileB hd pb) s (hd.size+tot pb)->recs s (lay hd.size pb)=fls pb:=by
 intro pb
 induction hN:pb.length generalizing pb with
 |zero =>
  have:pb=[]:=List.eq_nil_of_length_eq_zero hN
  subst this
  intro _ _
  rfl
 |succ N ih =>
  rcases List.eq_nil_or_concat pb with rfl|⟨l,x,rfl⟩
  ·simp at hN
  ·intro hg ha
   rw[List.concat_eq_append] at *
   have hgl:Good l:=fun z hz=>hg z (List.mem_append_left _ hz)
   obtain⟨g1,g2,g3⟩:=hg x (List.mem_append_right _ (List.mem_singleton_self x))
   have hz:=g3.size g1 g2
   have hsz:=fileB_size hd l
   obtain⟨q1,q2⟩:=GF_put (fileB hd l) 2 x.2 (by decide) hz.2
   rw[hsz] at q1 q2
   rw[fileB_snoc,tot_snoc] at ha
   have hal:Agree (fileB hd l) s (hd.size+tot l):=by
    refine agree_trans ?_ (ha.mono (by omega))
    have:=agree_app (fileB hd l) (frB 2 x.2) (hd.size+tot l) (by omega)
    rwa [extract_all _ _ hsz.symm] at this
   have hto:fto (fileB hd l++frB 2 x.2) (hd.size+tot l)=hd.size+tot l+(x.2.size+9):=congrArg (fun y:Fr=>y.2.2.2) q2
   obtain⟨r1,r2,-⟩:=ha.frame q1 (by omega)
   have hb:fbody s (hd.size+tot l)=x.2:=by
    rw[q2] at r2
    exact congrArg (fun y:Fr=>y.2.1) r2
   rw[lay_snoc,recs_snoc,ih l (by simp at hN;omega) hgl hal,fls_snoc]
   show _++(dec (fbody s (hd.size+tot l)).data.toList).getD []=_
   obtain⟨A,g4,g5⟩:=g3
   rw[hb,g5,dec_blk g1 g2 g4];rfl
theorem recs_seal {hd:ByteArray} {pb:List Pb} (hg:Good pb):recs (sealB hd pb) (lay hd.size pb)=fls pb:=by
 refine recs_lay hd _ pb hg ?_
 have:=agree_app (fileB hd pb) (frB 3 (ftB (lay hd.size pb))) (hd.size+tot pb) (by rw[fileB_size];omega)
 rwa [extract_all _ _ (fileB_size hd pb).symm] at this
end Dk
end Go.Proofs.YtlnbjikooadmoaaGreat
namespace Go.Proofs.YtlnbjikooadmoaaGreat
namespace Dk
open Go.RowKit Hd Fm Sn Bk Rd Bd Vi
theorem puts_le:∀ns:List Nat,(∀n∈ns,n<=1000000000)->(ns.flatMap putV).length<=5*ns.length
 | [],_=>by simp
 |n::ns,h=>by
  have h1:=length_putV_le n 4 (by have:=h n (List.mem_cons_self ..);omega)
  have h2:=puts_le ns fun m hm=>h m (List.mem_cons_of_mem _ hm)
  rw[List.flatMap_cons,List.length_append,List.length_cons];omega
theorem nums_len:∀l:List Mt,(l.flatMap nums).length=7*l.length
 | []=>rfl
 |m::l=>by rw[List.flatMap_cons,List.length_append,nums_len l,List.length_cons];simp[nums];omega
theorem ft_le {l:List Mt} (ho:okBl l=true):(ftB l).size<=5*(7*l.length+1):=by
 obtain⟨h1,h2⟩:=okBl_row ho
 have:(ftB l).size=((ftN l).flatMap putV).length:=by
  unfold ftB
  show(List.toArray _).size=_
  rw[List.size_toArray]
 rw[this]
 have h3:=puts_le (ftN l) (by
  intro n hn
  unfold ftN at hn
  rcases List.mem_cons.1 hn with rfl|hn
  ·omega
  ·obtain⟨m,hm,hn⟩:=List.mem_flatMap.1 hn
   have:=(okM_iff m).1 (rowM_mem l none h2 m hm)
   simp only[nums,List.mem_cons,List.not_mem_nil,or_false] at hn
   rcases hn with rfl|rfl|rfl|rfl|rfl|rfl|rfl<;>omega)
 have h4:(ftN l).length=7*l.length+1:=by unfold ftN;rw[List.length_cons,nums_len]
 omega
theorem recB_le {r:Int×Int×ByteArray} (h:ok1 r=true):(recB r).length<=2012:=by
 have:=(ok1_iff r).1 h
 have h1:=length_putV_le r.1.toNat 4 (by omega)
 have h2:=length_putV_le r.2.1.toNat 4 (by omega)
 have h3:=length_putV_le r.2.2.size 1 (by omega)
 unfold recB
 rw[List.length_append,List.length_append,List.length_append,size_list];omega
theorem joinB_le:∀R:List (Int×Int×ByteArray),(∀r∈R,ok1 r=true)->(joinB R).length<=2012*R.length
 | [],_=>by simp[joinB]
 |r::R,h=>by
  have h1:=recB_le (h r (List.mem_cons_self ..))
  have h2:=joinB_le R fun x hx=>h x (List.mem_cons_of_mem _ hx)
  have e:joinB (r::R)=recB r++joinB R:=List.flatMap_cons ..
  rw[e,List.length_append,List.length_cons];omega
theorem joinB_jE {R:List (Int×Int×ByteArray)} (h:jE R=0):(joinB R).length<=2012*R.length:=by
 refine joinB_le R fun r hr=>?_
 obtain⟨j,hj,e⟩:=List.getElem_of_mem hr
 exact(row_seq0 R (jE_row h).1 j r (by rw[List.getElem?_eq_getElem hj,e])).2.2.1
theorem tot_le:∀pb:List Pb,Good pb->tot pb<=2012*(fls pb).length+35*pb.length/\pb.length<=(fls pb).length
 | [],_=>⟨by simp[tot],by simp⟩
 |x::l,h=>by
  obtain⟨h1,h2⟩:=tot_le l fun z hz=>h z (List.mem_cons_of_mem _ hz)
  obtain⟨g1,g2,g3⟩:=h x (List.mem_cons_self ..)
  have hz:=(g3.size g1 g2).1
  have hj:=joinB_jE g1
  have hp:0<x.1.length:=List.length_pos_iff.2 g2
  have e:(fls (x::l)).length=x.1.length+(fls l).length:=by unfold fls;rw[List.map_cons,List.flatten_cons,List.length_append]
  rw[tot,e,List.length_cons];omega
end Dk
end Go.Proofs.YtlnbjikooadmoaaGreat
