/- record.Split. block.Decode. block.Merge. block: what the laws ask of it: plain lists, no program. block: Encode, Decode, Peek where they answer. block.Seqs. block.Ticks; span.Has, Empty, Size. varvelaw15.Few, varveref15.Same. The laws of block: the probes. The law BlockEncodes, its probe given. An argument that is a slice of records. -/
import Derived.Test.YtjligbmickfbdaaGreatBe53
import Derived.Test.YtjligbmickfbdaaGreatBe54
import Derived.Deep.QuietTactic
import Derived.BigQuiet
import Derived.ArgAppend
import Derived.Test.YtjligbmickfbdaaGreatBe52
import Derived.Test.YtjligbmickfbdaaGreatBe47
import Derived.Test.YtjligbmickfbdaaGreatBe48
import Derived.Deep.LoopGhost
import Derived.Deep.Slices
import Derived.Deep.Fields
import Derived.ChangeSame
namespace Go.Proofs.YtjligbmickfbdaaGreat
namespace Rd
open Go.RowKit Vi Bd
theorem rec1_lt {b b':List UInt8} {r:Int×Int×ByteArray} (h:rec1 b=some (r,b')):b=recB r++b'/\b'.length+3<=b.length:=by
 obtain⟨-,h2⟩:=rec1_some b r b' h;refine⟨h2,?_⟩;have:=congrArg List.length h2;rw[List.length_append] at this;have:=recB_length r;omega
theorem spl_fuel:∀(n m:Nat) (b:List UInt8),b.length<=n->b.length<=m->spl n b=spl m b
 |0,m,b,hn,_=>by
  have hb:b=[]:=List.length_eq_zero_iff.1 (by omega);subst hb;cases m<;>simp[spl]
 |n+1,m,b,hn,hm=>by
  by_cases hb:b=[]
  ·subst hb;cases m<;>simp[spl]
  ·have h0:0<b.length:=List.length_pos_iff.2 hb
   obtain⟨m,rfl⟩:∃k,m=k+1:=⟨m-1,by omega⟩
   rw[spl,spl,if_neg hb,if_neg hb];rcases hr:rec1 b with _|⟨r,b'⟩
   ·rfl
   ·have:=(rec1_lt hr).2
    simp only;rw[spl_fuel n m b' (by omega) (by omega)]
def Sp (b:List UInt8) (l:List (Int×Int×ByteArray)) (rest:List UInt8):Prop:=(spl rest.length rest).map (l++ ·)=spl b.length b
theorem sp_start (b:List UInt8):Sp b [] b:=by unfold Sp;simp
theorem sp_end {b:List UInt8} {l:List (Int×Int×ByteArray)} (h:Sp b l []):spl b.length b=some l:=by unfold Sp at h;rw[<-h];simp[spl]
theorem sp_none {b rest:List UInt8} {l:List (Int×Int×ByteArray)} (h:Sp b l rest) (hr:rest≠ []) (h1:rec1 rest=none):spl b.length b=none:=by
 unfold Sp at h;rw[<-h];obtain⟨n,hn⟩:∃n,rest.length=n+1:=⟨rest.length-1,by have:=List.length_pos_iff.2 hr;omega⟩
 rw[hn,spl,if_neg hr,h1];rfl
theorem sp_step {b rest rest':List UInt8} {l:List (Int×Int×ByteArray)} {r:Int×Int×ByteArray} (h:Sp b l rest) (hr:rest≠ []) (h1:rec1 rest=some (r,rest')):Sp b (l++[r]) rest':=by
 unfold Sp at *
 rw[<-h];obtain⟨n,hn⟩:∃n,rest.length=n+1:=⟨rest.length-1,by have:=List.length_pos_iff.2 hr;omega⟩
 have:=(rec1_lt h1).2;rw[hn,spl,if_neg hr,h1];simp only;rw[spl_fuel n rest'.length rest' (by omega) (Nat.le_refl _),Option.map_map];congr 1
 funext x
 simp
theorem split_none {b:List UInt8} (h:spl b.length b=none):split b=none:=by unfold split;rw[h];split<;>rfl
theorem split_big {b:List UInt8} (h:20000<b.length):split b=none:=if_pos h
theorem split_row {b:List UInt8} {l:List (Int×Int×ByteArray)} (h:spl b.length b=some l) (hr:rowE none l≠0):split b=none:=by
 unfold split;rw[h];simp only;rw[if_pos hr];split<;>rfl
theorem split_yes {b:List UInt8} {l:List (Int×Int×ByteArray)} (h0: ¬ 20000<b.length) (h:spl b.length b=some l) (hr:rowE none l=0):split b=some l:=by
 unfold split;rw[if_neg h0,h];simp only;rw[if_neg (by simp[hr])]
set_option maxHeartbeats 6400000 in
set_option maxRecDepth 100000 in
theorem split_any (s:ByteArray) (w:World) (hs:s.size<=1000000) :
  Calls Tryz.prog 62 #[.string s] w fun e w'=>((∃l,split s.data.toList=some l/\ ∃v,e=.returned (.tuple #[v,.int .i64 0])/\Own3 w' w.heap.size v l) ∨
   (split s.data.toList=none/\ ∃x,e=.returned (.tuple #[.slice none 0 0,.int .i64 x])/\x≠0))/\Below w.heap.size w w':=by
 have mixed:Tryz.prog.follows .mixedOrders=true:=by kernel_rfl
 have hl:s.data.toList.length=s.size:=rfl;by_cases hb:20000<s.size
 ·have HN:=Lib.hid (split_big (b:=s.data.toList) (by omega))
  have hb1:(20000:Int)<(s.size:Int):=by omega
  go_enter Tryz.func62, Tryz.ntmps62
  go_wp2_with fail
  go_ret2
  exact⟨.inr ⟨HN.out,3,rfl,by decide⟩,Below.refl _ _⟩
 ·have hb1: ¬ (20000:Int)<(s.size:Int):=by omega
  have HL:=Lib.hid hl;clear hl
  go_enter Tryz.func62, Tryz.ntmps62
  go_wp2_with fail
  go_loopw [4,5] (fun v a wr=>∃(p:Nat) (l:List (Int×Int×ByteArray)) (v0:Value),v0=v/\a=.int .i64 (p:Int)/\p<=s.size/\l.length<=p/\Hid (Sp s.data.toList l (s.data.toList.drop p)/\Own3 wr w.heap.size v l/\Below w.heap.size w wr)) (fun _ a _=>s.size-(intOf a).toNat)
  case atStart=>exact⟨0,[],.slice none 0 0,rfl,rfl,by omega,by simp,by rw[List.drop_zero];exact sp_start _,own3_nil _ _,Below.refl _ _⟩
  case round =>
   obtain⟨p,l,v,hv,rfl,hp,hlp,HX⟩:=hrel;subst hv;by_cases hps:p<s.size
   ·have hrest:s.data.toList.drop p≠ []:=by
     intro e;have:=congrArg List.length e;rw[List.length_drop,HL.out] at this;simp at this;omega
    have HG:=Lib.hid (rget_any s p wr hs hp);have HRE:=Lib.hid hrest;have hi:(p:Int)<(s.size:Int):=by omega
    clear hrest;go_wp2_with fail
    refine HG.out.mono ?_;rintro e1 w1 ⟨⟨r,b',hr,rfl⟩|⟨hr,x,rfl,hx⟩,hb2⟩
    ·obtain⟨q,t,d⟩:=r
     obtain⟨h1,h2⟩:=rec1_lt hr;have h3:=congrArg List.length h1;have h4:=recB_length (q,t,d);rw[List.length_append,List.length_drop,HL.out] at h3;have hdr:b'=s.data.toList.drop (p+(recB (q,t,d)).length):=by
      rw[<-List.drop_drop,h1];simp
     have HST:=Lib.hid (sp_step HX.out.1 HRE.out hr);rw[hdr] at HST;generalize (recB (q,t,d)).length=m at *
     have hown:=HX.out.2.1.below hb2 (Nat.le_refl _);have hB:=HX.out.2.2.trans (hb2.mono HX.out.2.2.size);have HO:=Lib.hid (And.intro hown hB);have hle:=hB.size;clear hdr h1 h2 HG HX HRE hr hown hB hb2;unfold rv;have ho2:Own3 (w1.alloc (.cells #[.int .i64 q,.int .i64 t,.string d] 53)) w.heap.size v l:=HO.out.1.below ((Below.refl _ _).alloc (Nat.le_refl _) _) (Nat.le_refl _);have hll:l.length<=1099511627776:=by omega
     have hB3:w.heap.size<=(w1.alloc (.cells #[.int .i64 q,.int .i64 t,.string d] 53)).heap.size:=by simp;omega
     have HO2:=Lib.hid (And.intro ho2 (And.intro hll hB3));clear ho2 hll hB3;go_wp2_with (at_builtin;refine append3 HO2.out.1 HO2.out.2.1 HO2.out.2.2 ?_ (hx:=by simp[go_sem,Act.eval]);intro A1 n1 c1 w3 hn1 hown3 hb3)
     exact⟨⟨p+m,l++[(q,t,d)],_,rfl,by go_num,by omega,by simp;omega,HST.out,hown3,(HO.out.2.alloc hle _).trans hb3⟩,by simp[intOf];omega⟩
    ·have HN:=Lib.hid (split_none (sp_none HX.out.1 HRE.out hr))
     have HB:=Lib.hid (HX.out.2.2.trans (hb2.mono HX.out.2.2.size));have hx1:(x != 0)=true:=by rw[bne_iff_ne];exact hx
     have hx2:(x==0)=false:=by rw[beq_eq_false_iff_ne];exact hx
     have hle:=HB.out.size;clear HG HX HRE hr hb2;unfold rv;go_wp2_with fail
     go_ret2
     exact⟨.inr ⟨HN.out,x,rfl,hx⟩,HB.out.alloc hle _⟩
   ·obtain rfl:p=s.size:=by omega
    have hnil:s.data.toList.drop s.size=[]:=List.drop_eq_nil_of_le (by rw[HL.out];exact Nat.le_refl _);have hsp:=HX.out.1;rw[hnil] at hsp;have HE:=Lib.hid (sp_end hsp);obtain⟨A,c,rfl,hc1,hc2,hrd⟩:=HX.out.2.1.rd;have HW:=Lib.hid (row_any A l.length c l wr hrd (by omega));clear hnil hsp hrd;by_cases hr:rowE none l=0
    ·have HY:=Lib.hid (split_yes (by rw[HL.out];exact hb) HE.out hr)
     rw[hr] at HW;clear HE hr;go_wp2_with fail
     refine HW.out.mono ?_;rintro e2 w2 ⟨rfl,hb2⟩;have HB:=Lib.hid (HX.out.2.2.trans (hb2.mono HX.out.2.2.size));have HO:=Lib.hid (HX.out.2.1.below hb2 (Nat.le_refl _));clear HX hb2 HW;go_wp2_with fail
     go_ret2
     exact⟨.inl ⟨l,HY.out,_,rfl,HO.out⟩,HB.out⟩
    ·have HN:=Lib.hid (split_row HE.out hr)
     generalize rowE none l=x at *
     have hx1:(x != 0)=true:=by rw[bne_iff_ne];exact hr
     have hx2:(x==0)=false:=by rw[beq_eq_false_iff_ne];exact hr
     go_wp2_with fail
     refine HW.out.mono ?_;rintro e2 w2 ⟨rfl,hb2⟩;have HB:=Lib.hid (HX.out.2.2.trans (hb2.mono HX.out.2.2.size));clear HX hb2 HW;go_wp2_with fail
     go_ret2
     exact⟨.inr ⟨HN.out,x,rfl,hr⟩,HB.out⟩
end Rd
end Go.Proofs.YtjligbmickfbdaaGreat
namespace Go.Proofs.YtjligbmickfbdaaGreat
namespace Bk
open Go.RowKit Tk Vi Sq Rd
theorem unS_le {b r:List UInt8} (h:unS b=some r):r.length<=20000:=unS_len b r h
theorem dec_peek {b:List UInt8} (h:peekB b=none):dec b=none:=by unfold dec;rw[h]
theorem dec_at {b r:List UInt8} {md raw count first early late:Nat} (h:peekB b=some (md,raw,count,first,early,late,r)) :
  dec b=match rawB md raw r with
   |none=>none
   |some s=>match split s with
    |none=>none
    |some l=>if fits l count first early late=true then some l else none:=by unfold dec;first|(rw[h];done)|(rw[h];rfl)
theorem dec_raw {b r:List UInt8} {md raw count first early late:Nat} (h:peekB b=some (md,raw,count,first,early,late,r)) (h2:rawB md raw r=none):dec b=none:=by rw[dec_at h,h2]
theorem dec_split {b r s:List UInt8} {md raw count first early late:Nat} (h:peekB b=some (md,raw,count,first,early,late,r)) (h2:rawB md raw r=some s) (h3:split s=none):dec b=none:=by
 rw[dec_at h,h2];simp only[h3]
theorem dec_fits {b r s:List UInt8} {md raw count first early late:Nat} {l:List (Int×Int×ByteArray)} (h:peekB b=some (md,raw,count,first,early,late,r)) (h2:rawB md raw r=some s) (h3:split s=some l) :
  dec b=if fits l count first early late=true then some l else none:=by
 rw[dec_at h,h2];simp only[h3]
theorem peek_le {b r:List UInt8} {md raw count first early late:Nat} (h:peekB b=some (md,raw,count,first,early,late,r)):r.length<=b.length/\raw<=20000/\1<=count/\count<=raw:=by
 unfold peekB at h;split at h;·simp at h
 rename_i m b'
 split at h
 ·rename_i raw' count' first' early' more r' hf
  split at h
  ·rename_i hm
   simp only[Option.some.injEq,Prod.mk.injEq] at h;obtain⟨-,rfl,rfl,-,-,-,rfl⟩:=h;rw[mayH_iff] at hm;obtain⟨l,-,-,hb,-⟩:=fin_some 5 [] b' _ _ hf;refine⟨?_,hm.2.1,hm.2.2.1,hm.2.2.2.1⟩;rw[hb,List.length_cons,List.length_append];omega
  ·simp at h
 ·simp at h
theorem fits_iff (l:List (Int×Int×ByteArray)) (count first early late:Nat):fits l count first early late=true↔l.length=count/\(at3 l 0).1=first/\(at3 l 0).2.1=early/\(at3 l (l.length-1)).2.1=late:=by simp[fits]
def DecAns (s:ByteArray) (w:World) (e:Ending) (w':World):Prop:=(∃l v,dec s.data.toList=some l/\e=.returned (.tuple #[v,.int .i64 0])/\Own3 w' w.heap.size v l) ∨
 (dec s.data.toList=none/\ ∃x,e=.returned (.tuple #[.slice none 0 0,.int .i64 x])/\x≠0)
set_option maxHeartbeats 6400000 in
set_option maxRecDepth 100000 in
theorem Decode_any (s:ByteArray) (w:World) (hs:s.size<=1000000) :
  Calls Tryz.prog 28 #[.string s] w fun e w'=>DecAns s w e w'/\Below w.heap.size w w':=by
 have mixed:Tryz.prog.follows .mixedOrders=true:=by kernel_rfl
 have HP:=Lib.hid (fun w=>peek_any s w hs);have hsl:s.data.toList.length=s.size:=rfl
 go_enter Tryz.func28, Tryz.ntmps28
 go_wp2_with fail
 refine(HP.out _).mono ?_;rintro e1 w1 ⟨hp,hb1⟩;have HB1:=Lib.hid hb1;clear HP hb1;rcases hp with ⟨md,raw,count,first,early,late,r,hpk,rfl⟩|⟨hpk,x,rfl,hx⟩
 ·have hle:=peek_le hpk
  have hrl:r.data.toList.length=r.size:=rfl;have HRW:=Lib.hid (fun w=>raw_any raw count first early late md r w (by omega));unfold hagg at HRW ⊢;have hH:Hb (w1.alloc (.cells #[.int .i64 0,.int .i64 0,.int .i64 raw,.int .i64 count,.int .i64 first,.int .i64 early,.int .i64 late,.int .i64 md,.string r] 96)) w1.heap.size raw count first early late md r:=heap_alloc_new w1 _;have hbw:=HB1.out.alloc (o:=.cells #[.int .i64 0,.int .i64 0,.int .i64 raw,.int .i64 count,.int .i64 first,.int .i64 early,.int .i64 late,.int .i64 md,.string r] 96) HB1.out.size;have HH:=Lib.hid (And.intro hH hbw);have HPK:=Lib.hid hpk;have HLE:=Lib.hid hle.2;clear hsl hle hrl hpk hH hbw;go_wp2_with fail
  refine(HRW.out _).mono ?_;rintro e2 w2 ⟨hrw,hb2⟩;have hH2:=HH.out.1.below hb2 HH.out.1.lt;have HB2:=Lib.hid (HH.out.2.trans (hb2.mono HH.out.2.size));clear HRW HH hb2 HB1;rcases hrw with ⟨t,hrt,rfl⟩|⟨hrt,x,rfl,hx⟩
  ·have HRT:=Lib.hid hrt
   have htl:t.size<=20000:=by
    have h2:=HRT.out;unfold rawB at h2;split at h2;·simp at h2
    split at h2;·simp at h2
    rename_i hne
    simp only[Option.some.injEq] at h2;subst h2;have:t.data.toList.length=t.size:=rfl;have:=HLE.out.1;omega
   have HS:=Lib.hid (split_any t w2 (by omega));have HH2:=Lib.hid hH2;clear hrt htl hH2;go_wp2_with fail
   refine HS.out.mono ?_;rintro e3 w3 ⟨hsp,hb3⟩;have hH3:=HH2.out.below hb3 HH2.out.lt;have HB3:=Lib.hid (HB2.out.trans (hb3.mono HB2.out.size));clear HS HH2 hb3;rcases hsp with ⟨l,hl,v,rfl,hown⟩|⟨hl,x,rfl,hx⟩
   ·have hdf:=dec_fits HPK.out HRT.out hl
    have HO:=Lib.hid (Own3.lower hown HB2.out.size);obtain⟨A,c,rfl,hc1,hc2,hrd⟩:=hown.rd;have k3:=hH3.c3;have k4:=hH3.c4;have k5:=hH3.c5;have k6:=hH3.c6;have HLN:=Lib.hid HLE.out.2;clear hH3 hown hl HRT HPK;by_cases h1:l.length=count
    ·have HLL:=Lib.hid h1
     obtain⟨m,hm⟩:∃m,l.length=m+1:=⟨l.length-1,by have:=HLN.out.1;omega⟩
     obtain⟨ad,q0,t0,d0,rfl,hbk,hx0,hc00,hc01,-⟩:=rec3 hrd (show 0<l.length by omega);obtain⟨ad',q1,t1,d1,hA',-,hx1,-,hc11,-⟩:=rec3 hrd (show m<l.length by omega);obtain rfl:ad=ad':=by simpa using hA'
     have ha0:at3 l 0=(q0,t0,d0):=Option.some.inj ((at3_get l 0 (by omega)).symm.trans hx0);have ha1:at3 l (l.length-1)=(q1,t1,d1):=Option.some.inj ((at3_get l (l.length-1) (by omega)).symm.trans (by rw[hm];exact hx1));have hft:fits l count first early late=true↔q0=first/\t0=early/\t1=late:=by rw[fits_iff,ha0,ha1];simp only;exact⟨fun h=>h.2,fun h=>⟨h1,h⟩⟩
     have hz:ad.add (0*3)=ad:=by rw[Nat.zero_mul];rfl
     rw[hz] at hc00 hc01;have hcm:c<=9223372036854775807:=by unfold maxLen at hc2;omega
     subst h1;have HO4:=Lib.hid (show Own3 w3 w.heap.size (.slice (some ad) (m+1) c) l by have:=HO.out;rwa [hm] at this);rw[hm] at hc1 k3 ⊢;clear hm hx0 hx1 hA' ha0 ha1 hz hrd hc2 HLN HLL;have i1:(0:Int)<(m:Int)+1:=by omega
     have i2:IntKind.i64.wrap (((m:Int)+1)-1)=(m:Int):=by rw[IntKind.wrap_i64];omega
     by_cases h2:q0=first
     ·subst h2
      by_cases h3:t0=early
      ·subst h3
       by_cases h4:t1=late
       ·subst h4
        rw[if_pos (hft.2 ⟨rfl,rfl,rfl⟩)] at hdf;have HD:=Lib.hid hdf;clear hdf hft;go_wp2_with fail
        go_quiet (fail)
        go_wp2_with fail
        go_ret2
        exact⟨.inl ⟨l,.slice (some ad) (m+1) c,HD.out,rfl,HO4.out⟩,below_drewN HB3.out _⟩
       ·rw[if_neg (fun h=>h4 (hft.1 h).2.2)] at hdf
        have HD:=Lib.hid hdf;have b4:((t1:Int)==(late:Int))=false:=by rw[beq_eq_false_iff_ne];exact h4
        have c4:((t1:Int) != (late:Int))=true:=by rw[bne_iff_ne];exact h4
        clear hdf hft h4;go_wp2_with fail
        go_quiet (fail)
        go_wp2_with fail
        go_ret2
        exact⟨.inr ⟨HD.out,170,rfl,by decide⟩,below_drewN HB3.out _⟩
      ·rw[if_neg (fun h=>h3 (hft.1 h).2.1)] at hdf
       have HD:=Lib.hid hdf;have b3:((t0:Int)==(early:Int))=false:=by rw[beq_eq_false_iff_ne];exact h3
       have c3:((t0:Int) != (early:Int))=true:=by rw[bne_iff_ne];exact h3
       clear hdf hft h3;go_wp2_with fail
       go_quiet (fail)
       go_wp2_with fail
       go_ret2
       exact⟨.inr ⟨HD.out,170,rfl,by decide⟩,below_drewN HB3.out _⟩
     ·rw[if_neg (fun h=>h2 (hft.1 h).1)] at hdf
      have HD:=Lib.hid hdf;have b2:((q0:Int)==(first:Int))=false:=by rw[beq_eq_false_iff_ne];exact h2
      have c2:((q0:Int) != (first:Int))=true:=by rw[bne_iff_ne];exact h2
      clear hdf hft h2;go_wp2_with fail
      go_quiet (fail)
      go_wp2_with fail
      go_ret2
      exact⟨.inr ⟨HD.out,170,rfl,by decide⟩,below_drewN HB3.out _⟩
    ·rw[if_neg (by rw[fits_iff];exact fun h=>h1 h.1)] at hdf
     have HD:=Lib.hid hdf;have b1:((l.length:Int)==(count:Int))=false:=by rw[beq_eq_false_iff_ne];omega
     have b2:((l.length:Int) != (count:Int))=true:=by rw[bne_iff_ne];omega
     have b3:(l.length==count)=false:=by rw[beq_eq_false_iff_ne];omega
     have b4:(l.length != count)=true:=by rw[bne_iff_ne];omega
     clear hdf h1 hrd;go_wp2_with fail
     go_quiet (fail)
     go_wp2_with fail
     go_ret2
     exact⟨.inr ⟨HD.out,170,rfl,by decide⟩,below_drewN HB3.out _⟩
   ·have HD:=Lib.hid (dec_split HPK.out HRT.out hl)
    have hb1:(x != 0)=true:=by rw[bne_iff_ne];exact hx
    have hb2:(x==0)=false:=by rw[beq_eq_false_iff_ne];exact hx
    clear hl;go_wp2_with fail
    go_ret2
    exact⟨.inr ⟨HD.out,x,rfl,hx⟩,HB3.out⟩
  ·have HD:=Lib.hid (dec_raw HPK.out hrt)
   have hb1:(x != 0)=true:=by rw[bne_iff_ne];exact hx
   have hb2:(x==0)=false:=by rw[beq_eq_false_iff_ne];exact hx
   clear hrt;go_wp2_with fail
   go_ret2
   exact⟨.inr ⟨HD.out,x,rfl,hx⟩,HB2.out⟩
 ·have HD:=Lib.hid (dec_peek hpk)
  have hb1:(x != 0)=true:=by rw[bne_iff_ne];exact hx
  have hb2:(x==0)=false:=by rw[beq_eq_false_iff_ne];exact hx
  have HB2:=Lib.hid (HB1.out.alloc (o:=.cells #[.int .i64 0,.int .i64 0,.int .i64 0,.int .i64 0,.int .i64 0,.int .i64 0,.int .i64 0,.int .i64 0,.string ⟨#[]⟩] 96) HB1.out.size);clear hpk;unfold hagg;go_wp2_with fail
  go_ret2
  exact⟨.inr ⟨HD.out,x,rfl,hx⟩,HB2.out⟩
end Bk
end Go.Proofs.YtjligbmickfbdaaGreat
namespace Go.Proofs.YtjligbmickfbdaaGreat
namespace Bk
open Go.RowKit Tk Vi Sq Rd
section
variable {ops:Array Oper} {rest:List Oper} {o:Oper} {a:Act} {Q:Exit->Act->World->Prop}
theorem appendR {s x:Operand} {w0:World} {ad:Addr} {A2:Option Addr} {n m c2:Nat} {l k:List (Int×Int×ByteArray)} (hrd1:Rd w0 w0.heap.size 3 (some ad) n (fl3 l)) (hrd2:Rd w0 w0.heap.size 3 A2 m (fl3 k)) (hn0:0<n) (hm:0<m) (hn:n+m<=100000)
  (h:∀v' w',Own3 w' w0.heap.size v' (l++k)->Below w0.heap.size w0 w'->wpList Tryz.prog ops Q rest (a.put o.dst v') w')
  (hgd:o.guard=none:=by exact rfl) (ho:o.op=.call { callee:=.builtin .append,args:=#[s,x],argTypes:=#[35,35] }:=by exact rfl)
  (hs:a.eval s=.slice (some ad) n n:=by exact rfl) (hx:a.eval x=.slice A2 m c2:=by exact rfl) :
  wpList Tryz.prog ops Q (o::rest) a w0:=by
 obtain⟨i0,hi,hz0,hz1,hz2⟩:=info_parts rec_info;obtain⟨ad1,e1,-,hc1⟩:=hrd1.cells hn0;obtain rfl:ad=ad1:=by simpa using e1
 obtain⟨ad2,rfl,-,hc2⟩:=hrd2.cells hm;refine wpList_append_grows w0 hgd s x 35 ho 53 i0 (.agg #[.int .i64 0,.int .i64 0,.string ⟨#[]⟩]) 3 32 Tryz.underlying35 hi hz0 hz1 hz2 rfl (by omega) (some ad) n n (fl3 l) hs (by intro e;cases e) hrd1.len
  (by intro b hb;cases hb;exact hc1) ad2 m c2 (fl3 k) hx hrd2.len hc2 (fl3_one k) (by omega) (by simp only[maxLen];omega) (by omega) ?_
 intro v' w' hown' hg;have hl:=rd3_len hrd1;have hk:=rd3_len hrd2;refine h v' w' ?_ ((Below.refl _ _).grown hg (Nat.le_refl _) (by simp));unfold Own3;rw[List.length_append,fl3_append,hl,hk];exact hown'
end
def MrgAns (a b:ByteArray) (e:Ending):Prop:=((dec a.data.toList=none∨dec b.data.toList=none)/\ ∃x,e=.returned (.tuple #[.string ⟨#[]⟩,.int .i64 x])/\x≠0) ∨
 (∃la lb,dec a.data.toList=some la/\dec b.data.toList=some lb/\EncAns (la++lb) e)
theorem dec_len {b:List UInt8} {l:List (Int×Int×ByteArray)} (h:dec b=some l):0<l.length/\l.length<=6667:=by
 obtain⟨h1,h2⟩:=dec_some h;obtain⟨-,-,-,-,-,h3⟩:=ends h1 h2;exact⟨List.length_pos_iff.2 h2,h3⟩
set_option maxHeartbeats 6400000 in
set_option maxRecDepth 100000 in
theorem Merge_any (a b:ByteArray) (w:World) (ha:a.size<=1000000) (hb:b.size<=1000000) :
  Calls Tryz.prog 29 #[.string a,.string b] w fun e w'=>MrgAns a b e/\Below w.heap.size w w':=by
 have mixed:Tryz.prog.follows .mixedOrders=true:=by kernel_rfl
 have HA:=Lib.hid (Decode_any a w ha);have HBB:=Lib.hid (fun w=>Decode_any b w hb)
 go_enter Tryz.func29, Tryz.ntmps29
 go_wp2_with fail
 refine HA.out.mono ?_;rintro e1 w1 ⟨hd,hb1⟩;have HB1:=Lib.hid hb1;clear HA hb1;rcases hd with ⟨la,v,hla,rfl,hown⟩|⟨hla,x,rfl,hx⟩
 ·have HL:=Lib.hid (And.intro hla (dec_len hla))
  obtain⟨A,c,rfl,hc1,hc2,hrd⟩:=hown.rd;have HR:=Lib.hid hrd;clear hla hown hrd;go_wp2_with fail
  refine(HBB.out _).mono ?_;rintro e2 w2 ⟨hd,hb2⟩;have hr1:=(HR.out.below hb2).more hb2.size;have HB2:=Lib.hid (HB1.out.trans (hb2.mono HB1.out.size));clear HBB hb2 HR HB1;rcases hd with ⟨lb,v,hlb,rfl,hown⟩|⟨hlb,x,rfl,hx⟩
  ·have HM:=Lib.hid (And.intro hlb (dec_len hlb))
   obtain⟨A2,c2,rfl,hc3,hc4,hrd2⟩:=hown.rd;obtain⟨ad,rfl,-⟩:=hr1.cells HL.out.2.1;have HR1:=Lib.hid hr1;have HR2:=Lib.hid hrd2;have hcm:c<=9223372036854775807:=by unfold maxLen at hc2;omega
   have HLN:=Lib.hid (show(la++lb).length<=100000 by rw[List.length_append];have:=HL.out.2.2;have:=HM.out.2.2;omega);generalize hn:la.length=n at *
   generalize hm:lb.length=m at *
   clear hn hm hlb hown hrd2 hr1 hc2 hc4;go_wp2_with (at_builtin;refine appendR HR1.out HR2.out HL.out.2.1 HM.out.2.1 (by have:=HL.out.2.2;have:=HM.out.2.2;omega) ?_;intro v3 w3 hown3 hb3)
   obtain⟨A3,c3,rfl,-,-,hrd3⟩:=hown3.rd;have HE:=Lib.hid (enc_any A3 _ c3 _ w3 hrd3 HLN.out);have HB3:=Lib.hid (HB2.out.trans (hb3.mono HB2.out.size));clear hown3 hrd3 hb3;go_wp2_with fail
   refine HE.out.mono ?_;rintro e4 w4 ⟨he,hb4⟩;have HB4:=Lib.hid (HB3.out.trans (hb4.mono HB3.out.size));clear hb4 HE;have he0:=he;obtain⟨S,rfl,-⟩:=he;have HE0:=Lib.hid he0;clear he0;go_wp2_with fail
   go_ret2
   exact⟨.inr ⟨la,lb,HL.out.1,HM.out.1,HE0.out⟩,HB4.out⟩
  ·have HM:=Lib.hid hlb
   have hb1:(x != 0)=true:=by rw[bne_iff_ne];exact hx
   have hb2:(x==0)=false:=by rw[beq_eq_false_iff_ne];exact hx
   clear hlb hr1;go_wp2_with fail
   go_ret2
   exact⟨.inl ⟨.inr HM.out,x,rfl,hx⟩,HB2.out⟩
 ·have HM:=Lib.hid hla
  have hb1:(x != 0)=true:=by rw[bne_iff_ne];exact hx
  have hb2:(x==0)=false:=by rw[beq_eq_false_iff_ne];exact hx
  clear hla;go_wp2_with fail
  go_ret2
  exact⟨.inl ⟨.inl HM.out,x,rfl,hx⟩,HB1.out⟩
end Bk
end Go.Proofs.YtjligbmickfbdaaGreat
namespace Go.Proofs.YtjligbmickfbdaaGreat
namespace Bt
theorem bl_le {n k:Nat} (h:n<2^k):bl n<=k:=by
 rcases Nat.eq_zero_or_pos n with rfl|hn
 ·simp[bl]
 ·obtain⟨h1,-,h3⟩:=bl_spec n hn
  have h4:2^(bl n-1)<2^k:=by omega
  have:=(Nat.pow_lt_pow_iff_right (by omega)).1 h4;omega
theorem bl_add (a b:Nat):bl (a+b)<=bl a+bl b+1:=by
 rcases Nat.eq_zero_or_pos a with rfl|ha
 ·rw[Nat.zero_add];omega
 rcases Nat.eq_zero_or_pos b with rfl|hb
 ·rw[Nat.add_zero];omega
 obtain⟨-,h1,-⟩:=bl_spec a ha;obtain⟨-,h2,-⟩:=bl_spec b hb;refine bl_le ?_;have e1:2^bl a<=2^(bl a+bl b):=Nat.pow_le_pow_right (by omega) (by omega);have e2:2^bl b<=2^(bl a+bl b):=Nat.pow_le_pow_right (by omega) (by omega);rw[Nat.pow_succ];omega
end Bt
namespace Tb
def gl (m:Nat):Nat:=if m=0 then 0 else 3+2*Bt.bl m
theorem tb_len:∀(R:List (Int×Int)) (last:Int),Good last R->gl (flat R).length<=(tb R).length
 | [],_,_=>by simp[gl,flat]
 |x::R,last,h=>by
  have ih:=tb_len R x.1 h.2.2.2.2;have hx:=h.2.2.2.1;have e:tb (x::R)=(Bt.toB 4 x.1.toNat++Bt.gam x.2.toNat)++tb R:=rfl;have e2:(flat (x::R)).length=x.2.toNat+(flat R).length:=by
   show(List.replicate x.2.toNat x.1++flat R).length=_
   simp
  rw[e,e2,List.length_append,List.length_append,Bt.length_toB,Bt.length_gam _ (by omega)];have h1:=(Bt.bl_spec x.2.toNat (by omega)).2.2;have h2:=Bt.bl_add x.2.toNat (flat R).length;unfold gl at *
  rw[if_neg (by omega)];split at ih
  ·rename_i h0
   rw[h0,Nat.add_zero];omega
  ·omega
end Tb
namespace Hf
theorem hb_big (syms:List Int):21<=(hb syms).length:=by
 have hg:=Tb.runs_good (lns syms) (lns_good syms).rng;have h1:=Tb.tb_len _ _ hg.1;rw[hg.2,length_lns] at h1;have h2:Tb.gl 257=21:=by decide +kernel
 unfold hb;rw[List.length_append];omega
end Hf
namespace Bk
open Vi Sq Rd
theorem packed_big (s:List UInt8) (A:List Nat):6<=(packed s A).length:=by
 have h3:=Hf.hb_big (sy s A);have h4:=Bt.length_byt (Hf.hb (sy s A));have:=length_putV_pos s.length;have:=length_putV_pos (Bw.pri A);have:=length_putV_pos (sy s A).length;have:Hf.hbyt (sy s A)=Bt.byt (Hf.hb (sy s A)):=rfl;unfold packed;simp only[List.length_append,this];omega
theorem isP_short {l:List (Int×Int×ByteArray)} (A:List Nat) (h:(joinB l).length<=6):isP l A=false:=by
 have:=packed_big (joinB l) A;unfold isP;rw[decide_eq_false_iff_not];omega
def hi:ByteArray:=⟨#[104,105]⟩
def l0:List (Int×Int×ByteArray):=[(1,300,hi)]
def b0:ByteArray:=⟨#[0,6,1,1,172,2,0,1,172,2,2,104,105]⟩
theorem put1:putV 1=[1]:=by rw[putV_small (by omega)];rfl
theorem put2:putV 2=[2]:=by rw[putV_small (by omega)];rfl
theorem put0:putV 0=[0]:=by rw[putV_small (by omega)];rfl
theorem put6:putV 6=[6]:=by rw[putV_small (by omega)];rfl
theorem put300:putV 300=[172,2]:=by rw[putV_step (by omega),show 300/128=2 from rfl,put2];rfl
theorem joinB_l0:joinB l0=[1,172,2,2,104,105]:=by
 show recB (1,300,hi)++[]=_
 unfold recB;show(putV 1++(putV 300++(putV 2++[104,105])))++[]=_
 rw[put1,put300,put2];rfl
theorem row_l0:rowE none l0=0:=by decide
theorem jE_l0:jE l0=0:=by
 unfold jE;rw[if_neg (by rw[row_l0];decide),if_neg (by rw[joinB_l0];decide)]
theorem encE_l0:encE l0=0:=by unfold encE;rw[if_neg (by decide)];exact jE_l0
theorem blk_l0 (A:List Nat):blk l0 A=b0.data.toList:=by
 have h1:isP l0 A=false:=isP_short A (by rw[joinB_l0];decide);have h2:(joinB l0).length=6:=by rw[joinB_l0];rfl
 have h3:hd5 l0=[6,1,1,300,0]:=by unfold hd5;rw[h2];rfl
 unfold blk mode body;rw[if_neg (by rw[h1];decide),if_neg (by rw[h1];decide),h3,joinB_l0];show _::((putV 6++(putV 1++(putV 1++(putV 300++(putV 0++[])))))++_)=_
 rw[put6,put1,put300,put0];rfl
theorem sorted_l0:Sx.Sorted (joinB l0) [6,0,2,3,4,5,1]:=by rw[joinB_l0];exact⟨by decide,by decide⟩
theorem dec_b0:dec b0.data.toList=some l0:=by
 have:=dec_blk jE_l0 (by decide) sorted_l0
 rwa [blk_l0] at this
theorem peek_b0:∃r,peekB b0.data.toList=some (0,6,1,1,300,300,r):=by
 have:=peek_blk [6,0,2,3,4,5,1] jE_l0 (by decide);rw[blk_l0] at this;have h1:isP l0 [6,0,2,3,4,5,1]=false:=isP_short _ (by rw[joinB_l0];decide);have h2:mode l0 [6,0,2,3,4,5,1]=0:=by unfold mode;rw[h1];rfl
 rw[h2,joinB_l0] at this;exact⟨_,this⟩
theorem encE_l0l0:encE (l0++l0)=151:=by
 unfold encE jE;rw[if_neg (by decide)];have:rowE none (l0++l0)=151:=by decide
 rw[this];rfl
theorem row_take:∀(l:List (Int×Int×ByteArray)) (p:Option (Int×Int×ByteArray)) (k:Nat),rowE p l=0->rowE p (l.take k)=0
 | [],_,k,_=>by rw[List.take_nil];rfl
 |x::l,p,0,_=>rfl
 |x::l,p,k+1,h=>by
  rw[List.take_succ_cons];rw[rowE] at h ⊢;split at h;·simp at h
  split at h;·simp at h
  rename_i h1 h2
  rw[if_neg h1,if_neg h2];exact row_take l (some x) k h
theorem row_none:∀(l:List (Int×Int×ByteArray)) (p:Option (Int×Int×ByteArray)),rowE p l=0->rowE none l=0
 | [],_,_=>rfl
 |x::l,p,h=>by
  rw[rowE] at h ⊢;split at h;·simp at h
  split at h;·simp at h
  rename_i h1 h2
  rw[if_neg h1,if_neg (by simp[off])];exact h
theorem row_drop:∀(l:List (Int×Int×ByteArray)) (p:Option (Int×Int×ByteArray)) (k:Nat),rowE p l=0->rowE none (l.drop k)=0
 |l,p,0,h=>row_none l p h
 | [],_,k+1,_=>rfl
 |x::l,p,k+1,h=>by
  rw[List.drop_succ_cons];rw[rowE] at h;split at h;·simp at h
  split at h;·simp at h
  exact row_drop l (some x) k h
theorem jE_of_row {l:List (Int×Int×ByteArray)} (h:rowE none l=0):jE l=if 20000<(joinB l).length then 3 else 0:=by unfold jE;rw[if_neg (by simp[h])]
theorem jE_cases {l:List (Int×Int×ByteArray)} (h:rowE none l=0):(20000<(joinB l).length/\jE l=3)∨((joinB l).length<=20000/\jE l=0):=by
 rw[jE_of_row h];split
 ·exact .inl ⟨by assumption,rfl⟩
 ·exact .inr ⟨by omega,rfl⟩
theorem joinB_cat (a b:List (Int×Int×ByteArray)):(joinB (a++b)).length=(joinB a).length+(joinB b).length:=by
 have:joinB (a++b)=joinB a++joinB b:=List.flatMap_append ..;rw[this,List.length_append]
theorem enc_part {l:List (Int×Int×ByteArray)} {k:Nat} (h:rowE none l=0) (hk:0<k) (hkl:k<l.length) (hp:encE (l.take k)≠0∨encE (l.drop k)≠0):encE l=3:=by
 have hn:l≠ []:=by rintro rfl;simp at hkl
 have hn1:l.take k≠ []:=by intro e;have:=congrArg List.length e;rw[List.length_take,List.length_nil] at this;omega
 have hn2:l.drop k≠ []:=by intro e;have:=congrArg List.length e;rw[List.length_drop,List.length_nil] at this;omega
 have hj:=joinB_cat (l.take k) (l.drop k);rw[List.take_append_drop] at hj;unfold encE at *
 rw[if_neg hn];rw[if_neg hn1,if_neg hn2] at hp;rcases jE_cases h with ⟨h1,h2⟩|⟨h1,h2⟩
 ·exact h2
 ·exfalso
  rcases jE_cases (row_take l none k h) with ⟨a1,a2⟩|⟨a1,a2⟩
  ·omega
  rcases jE_cases (row_drop l none k h) with ⟨b1,b2⟩|⟨b1,b2⟩
  ·omega
  rcases hp with hp|hp
  ·exact hp a2
  ·exact hp b2
theorem enc_row {l:List (Int×Int×ByteArray)} (h:rowE none l=0) (hn:l≠ []):encE l=0∨encE l=3:=by
 unfold encE;rw[if_neg hn];rcases jE_cases h with ⟨-,h2⟩|⟨-,h2⟩
 ·exact .inr h2
 ·exact .inl h2
end Bk
end Go.Proofs.YtjligbmickfbdaaGreat
namespace Go.Proofs.YtjligbmickfbdaaGreat
namespace Bk
open Go.RowKit Tk Vi Sq Rd
theorem enc_dec (A:Option Addr) (n c:Nat) (l:List (Int×Int×ByteArray)) (w:World) (hrd:Rd w w.heap.size 3 A n (fl3 l)) (hn:n<=100000) (h:encE l=0) :
  Calls Tryz.prog 14 #[.slice A n c] w fun e w'=>(∃(S:ByteArray) (arr:List Nat),e=.returned (.tuple #[.string S,.int .i64 0])/\Sx.Sorted (joinB l) arr/\S.data.toList=blk l arr/\S.size<=(joinB l).length+26/\S.size<=20026/\dec S.data.toList=some l)/\Below w.heap.size w w':=by
 refine(enc_any A n c l w hrd hn).mono ?_;rintro e w' ⟨⟨S,rfl,-,h2⟩,hb⟩;obtain⟨arr,hso,rfl⟩:=h2 h;obtain⟨hj,hl⟩:=enc_ok h;have h3:=blk_len (A:=arr) hj hl;have h4:=(jE_row hj).2;have h5:(⟨(blk l arr).toArray⟩:ByteArray).size=(blk l arr).length:=by simp[ByteArray.size]
 exact⟨⟨_,arr,by rw[h],hso,rfl,by omega,by omega,dec_blk hj hl hso⟩,hb⟩
theorem enc_not (A:Option Addr) (n c:Nat) (l:List (Int×Int×ByteArray)) (w:World) (hrd:Rd w w.heap.size 3 A n (fl3 l)) (hn:n<=100000) (h:encE l≠0) :
  Calls Tryz.prog 14 #[.slice A n c] w fun e w'=>e=.returned (.tuple #[.string ⟨#[]⟩,.int .i64 (encE l)])/\Below w.heap.size w w':=by
 refine(enc_any A n c l w hrd hn).mono ?_;rintro e w' ⟨⟨S,rfl,h1,-⟩,hb⟩;rw[h1 h];exact⟨rfl,hb⟩
theorem dec_yes (s:ByteArray) (l:List (Int×Int×ByteArray)) (w:World) (hs:s.size<=1000000) (h:dec s.data.toList=some l) :
  Calls Tryz.prog 28 #[.string s] w fun e w'=>(∃A c,e=.returned (.tuple #[.slice A l.length c,.int .i64 0])/\Rd w' w'.heap.size 3 A l.length (fl3 l))/\Below w.heap.size w w':=by
 refine(Decode_any s w hs).mono ?_;rintro e w' ⟨⟨l',v,hl,rfl,hown⟩|⟨hl,-⟩,hb⟩
 ·rw[h] at hl
  obtain rfl:=Option.some.inj hl;obtain⟨A,c,rfl,-,-,hr⟩:=hown.rd;exact⟨⟨A,c,rfl,hr⟩,hb⟩
 ·rw[h] at hl;cases hl
theorem peek_yes (s:ByteArray) {md raw count first early late:Nat} {r:List UInt8} (w:World) (hs:s.size<=1000000) (h:peekB s.data.toList=some (md,raw,count,first,early,late,r)) :
  Calls Tryz.prog 27 #[.string s] w fun e w'=>e=.returned (.tuple #[magg 0 0 raw count first early late,.int .i64 0])/\Below w.heap.size w w':=by
 refine(Peek_any s w hs).mono ?_;rintro e w' ⟨⟨md',raw',count',first',early',late',r',h',rfl⟩|⟨h',-⟩,hb⟩
 ·rw[h] at h'
  simp only[Option.some.injEq,Prod.mk.injEq] at h';obtain⟨-,rfl,rfl,rfl,rfl,rfl,-⟩:=h';exact⟨rfl,hb⟩
 ·rw[h] at h';cases h'
theorem row_nats {l:List (Int×Int×ByteArray)} (h:jE l=0) (hn:l≠ []):∃F E T:Nat,(at3 l 0).1=F/\(at3 l 0).2.1=E/\(at3 l (l.length-1)).2.1=T/\F+l.length<=1000000001/\(at3 l 0).1.toNat=F/\(at3 l 0).2.1.toNat=E/\(at3 l (l.length-1)).2.1.toNat=T /\
  ∀(k:Nat) (r:Int×Int×ByteArray),l[k]? =some r->r.1=(F:Int)+k/\(E:Int)<=r.2.1/\r.2.1<=(T:Int):=by
 obtain⟨e1,e2,e3,e4,e5,e6⟩:=ends h hn;obtain⟨h1,h2⟩:=jE_row h;have hp:0<l.length:=List.length_pos_iff.2 hn;refine⟨(at3 l 0).1.toNat,(at3 l 0).2.1.toNat,(at3 l (l.length-1)).2.1.toNat,by omega,by omega,by omega,by omega,rfl,rfl,rfl,fun k r hk=>?_⟩;obtain⟨a1,a2,-,a4⟩:=row_seq0 l h1 k r hk;have hkl:k<l.length:=(List.getElem?_eq_some_iff.1 hk).1;have:=a4 (l.length-1) _ (by omega) (at3_get l (l.length-1) (by omega));omega
end Bk
end Go.Proofs.YtjligbmickfbdaaGreat
namespace Go.Proofs.YtjligbmickfbdaaGreat
namespace Bk
open Go.RowKit
def rg (lo hi:Int):Value:=.agg #[.int .i64 lo,.int .i64 hi]
set_option maxHeartbeats 6400000 in
set_option maxRecDepth 100000 in
theorem seqs_at (a s:Int) (raw c first early late:Nat) (w:World) (h:first+c<=1000000000) :
  Calls Tryz.prog 31 #[magg a s raw (c+1:Nat) first early late] w fun e w'=>e=.returned (rg first (first+c:Nat))/\Below w.heap.size w w':=by
 have mixed:Tryz.prog.follows .mixedOrders=true:=by kernel_rfl
 have h1: ¬ (((c+1:Nat):Int)<1):=by omega
 have h2:IntKind.i64.wrap (((c+1:Nat):Int)-1)=(c:Int):=by rw[IntKind.wrap_i64];omega
 have h3:IntKind.i64.wrap (9223372036854775807-(c:Int))=9223372036854775807-(c:Int):=by rw[IntKind.wrap_i64];omega
 have h4: ¬ (9223372036854775807-(c:Int)<(first:Int)):=by omega
 have h5:IntKind.i64.wrap ((first:Int)+(c:Int))=((first+c:Nat):Int):=by rw[IntKind.wrap_i64];omega
 have HB:=Lib.hid h;clear h;unfold magg rg;generalize ((c+1:Nat):Int)=C at *
 go_enter Tryz.func31, Tryz.ntmps31
 go_wp2_with fail
 refine bodyPost_ret (v:=.agg #[.int .i64 first,.int .i64 ((first:Int)+c)]) (by simp[results,go_sem]) rfl ?_;exact⟨by simp,(ext_alloc w _).trans ((ext_alloc _ _).mono (by simp))⟩
theorem seqs_any (raw c first early late:Nat) (w:World) (h:first+c<=1000000000) :
  Calls Tryz.prog 31 #[magg 0 0 raw (c+1:Nat) first early late] w fun e w'=>e=.returned (rg first (first+c:Nat))/\Below w.heap.size w w':=seqs_at 0 0 raw c first early late w h
theorem run_lo (w:World) (x y:Int):Sem.run Tryz.prog (Instr.field 63 (.agg #[.int .i64 x,.int .i64 y]) 0) w=.ok (.int .i64 x) w:=by
 have hu:=Tryz.underlying63;have h3:=Tryz.underlying3;simp[Instr.field,hu,h3,asAgg,part,isAgg,go_sem]
theorem run_hi (w:World) (x y:Int):Sem.run Tryz.prog (Instr.field 63 (.agg #[.int .i64 x,.int .i64 y]) 1) w=.ok (.int .i64 y) w:=by
 have hu:=Tryz.underlying63;have h3:=Tryz.underlying3;simp[Instr.field,hu,h3,asAgg,part,isAgg,go_sem]
end Bk
end Go.Proofs.YtjligbmickfbdaaGreat
namespace Go.Proofs.YtjligbmickfbdaaGreat
namespace Bk
open Go.RowKit Tk Vi Sq Rd
set_option maxHeartbeats 6400000 in
set_option maxRecDepth 100000 in
theorem ticks_any (raw c first early late:Nat) (w:World) :
  Calls Tryz.prog 32 #[magg 0 0 raw (c+1:Nat) first early late] w fun e w'=>e=.returned (rg early late)/\Below w.heap.size w w':=by
 have mixed:Tryz.prog.follows .mixedOrders=true:=by kernel_rfl
 have h1: ¬ (((c+1:Nat):Int)<1):=by omega
 unfold magg rg;generalize ((c+1:Nat):Int)=C at *
 go_enter Tryz.func32, Tryz.ntmps32
 go_wp2_with fail
 refine bodyPost_ret (v:=.agg #[.int .i64 early,.int .i64 late]) (by simp[results,go_sem]) rfl ?_;exact⟨rfl,(ext_alloc w _).trans ((ext_alloc _ _).mono (by simp))⟩
end Bk
end Go.Proofs.YtjligbmickfbdaaGreat
namespace Go.Proofs.YtjligbmickfbdaaGreat
namespace Rd
open Go.RowKit
def few (l:List (Int×Int×ByteArray)):Bool:=decide (l.length<=200)&&l.all fun r=>decide (r.2.2.size<=3000)
theorem few_big {l:List (Int×Int×ByteArray)} (h:200<l.length):few l=false:=by unfold few;rw[decide_eq_false (by omega)];rfl
theorem few_no {l:List (Int×Int×ByteArray)} {k:Nat} {q t:Int} {d:ByteArray} (h:l[k]? =some (q,t,d)) (hd:3000<d.size):few l=false:=by
 unfold few;rw[Bool.and_eq_false_iff]
 right
 rw[List.all_eq_false];exact⟨_,List.mem_of_getElem? h,by simp only[decide_eq_true_eq];omega⟩
theorem few_yes {l:List (Int×Int×ByteArray)} (h:l.length<=200) (hd:∀k r,k<l.length->l[k]? =some r->r.2.2.size<=3000):few l=true:=by
 unfold few;rw[Bool.and_eq_true];refine⟨decide_eq_true h,List.all_eq_true.2 fun x hx=>?_⟩;obtain⟨k,hk,rfl⟩:=List.getElem_of_mem hx;exact decide_eq_true (hd k _ hk (List.getElem?_eq_getElem hk))
theorem few_len {l:List (Int×Int×ByteArray)} (h:few l=true):l.length<=200:=by
 unfold few at h;rw[Bool.and_eq_true] at h;exact of_decide_eq_true h.1
set_option maxHeartbeats 6400000 in
set_option maxRecDepth 100000 in
theorem few_any (A:Option Addr) (n c:Nat) (l:List (Int×Int×ByteArray)) (w:World) (hrd:Rd w w.heap.size 3 A n (fl3 l)) (hn:n<=c) (hc:c<=maxLen) :
  Calls Tryz.prog 11 #[.slice A n c] w fun e w'=>e=.returned (.bool (few l))/\w=w':=by
 have mixed:Tryz.prog.follows .mixedOrders=true:=by kernel_rfl
 have hln:=rd3_len hrd;have hnm:n<=9223372036854775807:=by unfold maxLen at hc;omega
 clear hn hc;by_cases hb:200<n
 ·have HF:=Lib.hid (few_big (l:=l) (by omega))
  have hb2:(200:Int)<(n:Int):=by omega
  clear hb hrd hln
  go_enter Tryz.func11, Tryz.ntmps11
  go_wp2_with fail
  go_ret
  exact⟨ret_bool HF.out.symm,rfl⟩
 ·have HR:=Lib.hid hrd
  clear hrd
  go_enter Tryz.func11, Tryz.ntmps11
  go_wp2_with fail
  go_loopw [3] (fun v wr=>∃k:Nat,v=.int .i64 k/\k<=n/\w=wr/\Hid (∀j r,j<k->l[j]? =some r->r.2.2.size<=3000)) (fun v _=>n-(intOf v).toNat)
  case atStart=>exact⟨0,by go_num,by omega,rfl,fun j r h=>absurd h (by omega)⟩
  case round =>
   obtain⟨k,rfl,hk,rfl,HX⟩:=hrel;by_cases hkn:k<n
   ·obtain⟨ad,q,t,d,rfl,hbk,hx,hc0,hc1,hc2⟩:=rec3 HR.out hkn
    by_cases hd:d.size<=3000
    ·have hok:∀j r,j<k+1->l[j]? =some r->r.2.2.size<=3000:=by
      intro j r hj hr;rcases Nat.lt_or_ge j k with h|h
      ·exact HX.out j r h hr
      ·obtain rfl:j=k:=by omega
       rw[hx] at hr;cases hr;exact hd
     have HOK:=Lib.hid hok;have hd2: ¬ (3000:Int)<(d.size:Int):=by omega
     clear hok hx hc0 hc1 HX;go_wp2_with fail
     exact⟨⟨k+1,by go_num,by omega,trivial,HOK.out⟩,by simp[intOf];omega⟩
    ·have HF:=Lib.hid (few_no hx (by omega))
     have hd2:(3000:Int)<(d.size:Int):=by omega
     clear hx hc0 hc1 HX;go_wp2_with fail
     go_ret
     exact⟨ret_bool HF.out.symm,rfl⟩
   ·obtain rfl:k=n:=by omega
    have HF:=Lib.hid (few_yes (l:=l) (by omega) (by rw[hln];exact HX.out));clear HX HR;go_wp2_with fail
    go_ret
    exact⟨ret_bool HF.out.symm,rfl⟩
set_option maxHeartbeats 6400000 in
set_option maxRecDepth 100000 in
theorem same_yes (A B:Option Addr) (n c d:Nat) (l:List (Int×Int×ByteArray)) (w:World) (hrd:Rd w w.heap.size 3 A n (fl3 l)) (hrd2:Rd w w.heap.size 3 B n (fl3 l)) (hn:n<=100000) :
  Calls Tryz.prog 30 #[.slice A n c,.slice B n d] w fun e w'=>e=.returned (.bool true)/\Below w.heap.size w w':=by
 have mixed:Tryz.prog.follows .mixedOrders=true:=by kernel_rfl
 have HR:=Lib.hid (And.intro hrd hrd2);clear hrd hrd2
 go_enter Tryz.func30, Tryz.ntmps30
 go_wp2_with fail
 go_loopw [5] (fun v wr=>∃k:Nat,v=.int .i64 k/\k<=n/\Hid (Below w.heap.size w wr)) (fun v _=>n-(intOf v).toNat)
 case atStart=>exact⟨0,by go_num,by omega,Below.refl _ _⟩
 case round =>
  obtain⟨k,rfl,hk,HX⟩:=hrel;by_cases hkn:k<n
  ·obtain⟨ad,q,t,x,rfl,hbk,hx,hc0,hc1,hc2⟩:=rec3 (HR.out.1.below HX.out) hkn
   obtain⟨ad',q',t',x',rfl,hbk',hx',hd0,hd1,hd2⟩:=rec3 (HR.out.2.below HX.out) hkn;rw[hx] at hx';simp only[Option.some.injEq,Prod.mk.injEq] at hx';obtain⟨rfl,rfl,rfl⟩:=hx';have i1:(0:Int)<=(k:Int):=by omega
   have i2:(k:Int)<(n:Int):=by omega
   have i3:IntKind.i64.wrap (k:Int)=(k:Int):=by rw[IntKind.wrap_i64];omega
   have HB:=Lib.hid HX.out;clear hx hbk hbk' HX HR;go_wp2_with fail
   go_quiet (fail)
   go_wp2_with fail
   exact⟨⟨k+1,by go_num,by omega,below_drewN HB.out _⟩,by simp[intOf];omega⟩
  ·obtain rfl:k=n:=by omega
   have HB:=Lib.hid HX.out;clear HX HR;go_wp2_with fail
   go_ret
   exact⟨rfl,HB.out⟩
end Rd
end Go.Proofs.YtjligbmickfbdaaGreat
namespace Go.Proofs.YtjligbmickfbdaaGreat
namespace Bk
open Go.RowKit Tk Vi Sq Rd
def b0l:Value:=.string ⟨#[0,6,1,1,172,2,0,1,172,2,2,104,105]⟩
theorem rd_l0 (w:World):Rd (w.alloc (.cells #[.int .i64 1,.int .i64 300,.string ⟨#[104,105]⟩] 53)) (w.heap.size+1) 3 (some ⟨w.heap.size,0,none⟩) 1 (fl3 l0):=by
 refine⟨rfl,fun _=>⟨_,rfl,Nat.lt_succ_self _,fun j u hu=>?_⟩⟩;rw[Addr.add_lit,Nat.zero_add,World.cell?_alloc_new];simpa[fl3,cl3,l0,hi] using hu
theorem enc_l0 (A:Option Addr) (c:Nat) (w:World) (hrd:Rd w w.heap.size 3 A 1 (fl3 l0)) :
  Calls Tryz.prog 14 #[.slice A 1 c] w fun e w'=>e=.returned (.tuple #[b0l,.int .i64 0])/\Below w.heap.size w w':=by
 refine(enc_dec A 1 c l0 w hrd (by omega) encE_l0).mono ?_;rintro e w' ⟨⟨S,arr,rfl,-,hS,-⟩,hb⟩;have:S=b0:=by
  rw[blk_l0] at hS;obtain⟨⟨S⟩⟩:=S;have h2:S=b0.data.toList:=hS;rw[h2]
 rw[this];exact⟨rfl,hb⟩
theorem enc_nil (w:World):Calls Tryz.prog 14 #[.slice none 0 0] w fun e w'=>e=.returned (.tuple #[.string ⟨#[]⟩,.int .i64 2])/\Below w.heap.size w w':=by
 have h:encE []=2:=if_pos rfl;refine(enc_not none 0 0 [] w Rd.nil (by omega) (by rw[h];decide)).mono ?_;rintro e w' ⟨rfl,hb⟩;rw[h];exact⟨rfl,hb⟩
theorem peek_b0l (w:World):Calls Tryz.prog 27 #[b0l] w fun e w'=>e=.returned (.tuple #[magg 0 0 6 1 1 300 300,.int .i64 0])/\Below w.heap.size w w':=by
 refine(Peek_any b0 w (by decide)).mono ?_;obtain⟨r,hr⟩:=peek_b0;rintro e w' ⟨⟨md,raw,count,first,early,late,r',h,rfl⟩|⟨h,-⟩,hb⟩
 ·rw[hr] at h
  simp only[Option.some.injEq,Prod.mk.injEq] at h;obtain⟨-,rfl,rfl,rfl,rfl,rfl,-⟩:=h;exact⟨rfl,hb⟩
 ·rw[hr] at h;cases h
theorem dec_b0l (w:World):Calls Tryz.prog 28 #[b0l] w fun e w'=>(∃A c,e=.returned (.tuple #[.slice A 1 c,.int .i64 0])/\Rd w' w'.heap.size 3 A 1 (fl3 l0))/\Below w.heap.size w w':=dec_yes b0 l0 w (by decide) dec_b0
theorem merge_b0l (w:World):Calls Tryz.prog 29 #[b0l,b0l] w fun e w'=>e=.returned (.tuple #[.string ⟨#[]⟩,.int .i64 151])/\Below w.heap.size w w':=by
 refine(Merge_any b0 b0 w (by decide) (by decide)).mono ?_;rintro e w' ⟨⟨h|h,-⟩|⟨la,lb,h1,h2,S,rfl,h3,-⟩,hb⟩
 ·rw[dec_b0] at h;cases h
 ·rw[dec_b0] at h;cases h
 ·rw[dec_b0] at h1 h2
  obtain rfl:=Option.some.inj h1;obtain rfl:=Option.some.inj h2;rw[h3 (by rw[encE_l0l0];decide),encE_l0l0];exact⟨rfl,hb⟩
theorem seqs_l0 (w:World):Calls Tryz.prog 31 #[magg 0 0 6 1 1 300 300] w fun e w'=>e=.returned (rg 1 1)/\Below w.heap.size w w':=seqs_any 6 0 1 300 300 w (by omega)
theorem ticks_l0 (w:World):Calls Tryz.prog 32 #[magg 0 0 6 1 1 300 300] w fun e w'=>e=.returned (rg 300 300)/\Below w.heap.size w w':=ticks_any 6 0 1 300 300 w
set_option maxHeartbeats 6400000 in
set_option maxRecDepth 100000 in
theorem bawake_any (w:World):Calls Tryz.prog 13 #[] w fun e w'=>e=.returned (.bool true)/\Below w.heap.size w w':=by
 have mixed:Tryz.prog.follows .mixedOrders=true:=by kernel_rfl
 have hr0:=rd_l0 w;have hbw:=ext_alloc w (.cells #[.int .i64 1,.int .i64 300,.string ⟨#[104,105]⟩] 53);have H0:=Lib.hid (And.intro hr0 hbw);clear hr0 hbw
 go_enter Tryz.func13, Tryz.ntmps13
 go_wp2_with fail
 refine(enc_l0 _ _ _ (H0.out.1.more (by simp))).mono ?_;rintro e1 w1 ⟨rfl,hb1⟩;have H1:=Lib.hid (show Rd w1 (w.heap.size+1) 3 (some ⟨w.heap.size,0,none⟩) 1 (fl3 l0)/\Below w.heap.size w w1/\w.heap.size+1<=w1.heap.size from
  ⟨H0.out.1.below (hb1.mono (by simp)),H0.out.2.trans (hb1.mono (by simp)),by have:=hb1.size;simp at this;omega⟩)
 clear H0 hb1;unfold b0l;go_wp2_with fail
 refine(peek_b0l w1).mono ?_;rintro e2 w2 ⟨rfl,hb2⟩;have hB2:w.heap.size+1<=w2.heap.size:=by have:=hb2.size;have:=H1.out.2.2;omega
 have hbw2:=H1.out.2.1.trans (hb2.mono H1.out.2.1.size);have hr2:=(H1.out.1.below (hb2.mono H1.out.2.2)).alloc hB2 (.cells #[.int .i64 0,.int .i64 0,.int .i64 6,.int .i64 1,.int .i64 1,.int .i64 300,.int .i64 300] 55);have hbf:=hbw2.alloc (o:=.cells #[.int .i64 0,.int .i64 0,.int .i64 6,.int .i64 1,.int .i64 1,.int .i64 300,.int .i64 300] 55) hbw2.size;have hmf:Mb (w2.alloc (.cells #[.int .i64 0,.int .i64 0,.int .i64 6,.int .i64 1,.int .i64 1,.int .i64 300,.int .i64 300] 55)) w2.heap.size 0 0 6 1 1 300 300:=heap_alloc_new w2 _;have H2:=Lib.hid (And.intro hmf (And.intro hr2 hbf));have hF:w.heap.size+1<=w2.heap.size:=hB2;have HF:=Lib.hid hF;clear hmf hr2 hbf hb2 hB2 hbw2 hF H1;unfold magg;go_wp2_with fail
 refine(dec_b0l _).mono ?_;rintro e3 w3 ⟨⟨A3,c3,rfl,hr3⟩,hb3⟩;have hs3:=hb3.size;simp at hs3
 have H3:=Lib.hid (show Mb w3 w2.heap.size 0 0 6 1 1 300 300/\Rd w3 (w.heap.size+1) 3 (some ⟨w.heap.size,0,none⟩) 1 (fl3 l0)/\Below w.heap.size w w3/\Rd w3 w3.heap.size 3 A3 1 (fl3 l0)/\w2.heap.size+1<=w3.heap.size from
  ⟨H2.out.1.below hb3 (by simp),H2.out.2.1.below (hb3.mono (by have:=HF.out;simp;omega)),H2.out.2.2.trans (hb3.mono H2.out.2.2.size),hr3,hs3⟩)
 clear H2 hb3 hr3 hs3;go_wp2_with fail
 refine(enc_nil w3).mono ?_;rintro e4 w4 ⟨rfl,hb4⟩;have H4:=Lib.hid (show Mb w4 w2.heap.size 0 0 6 1 1 300 300/\Rd w4 (w.heap.size+1) 3 (some ⟨w.heap.size,0,none⟩) 1 (fl3 l0)/\Below w.heap.size w w4/\Rd w4 w4.heap.size 3 A3 1 (fl3 l0)/\w2.heap.size+1<=w4.heap.size from
  ⟨H3.out.1.below hb4 H3.out.2.2.2.2,H3.out.2.1.below (hb4.mono (by have:=HF.out;have:=H3.out.2.2.2.2;omega)),H3.out.2.2.1.trans (hb4.mono H3.out.2.2.1.size),(H3.out.2.2.2.1.below hb4).more hb4.size,by have:=hb4.size;have:=H3.out.2.2.2.2;omega⟩)
 clear H3 hb4;go_wp2_with fail
 refine(merge_b0l w4).mono ?_;rintro e5 w5 ⟨rfl,hb5⟩;have H5:=Lib.hid (show Mb w5 w2.heap.size 0 0 6 1 1 300 300/\Rd w5 (w.heap.size+1) 3 (some ⟨w.heap.size,0,none⟩) 1 (fl3 l0)/\Below w.heap.size w w5/\Rd w5 w5.heap.size 3 A3 1 (fl3 l0)/\w2.heap.size+1<=w5.heap.size from
  ⟨H4.out.1.below hb5 H4.out.2.2.2.2,H4.out.2.1.below (hb5.mono (by have:=HF.out;have:=H4.out.2.2.2.2;omega)),H4.out.2.2.1.trans (hb5.mono H4.out.2.2.1.size),(H4.out.2.2.2.1.below hb5).more hb5.size,by have:=hb5.size;have:=H4.out.2.2.2.2;omega⟩)
 have k0:=H5.out.1.c0;have k1:=H5.out.1.c1;have k2:=H5.out.1.c2;have k3:=H5.out.1.c3;have k4:=H5.out.1.c4;have k5:=H5.out.1.c5;have k6:=H5.out.1.c6;have HS:=Lib.hid (fun c d=>same_yes A3 (some ⟨w.heap.size,0,none⟩) 1 c d l0 w5 H5.out.2.2.2.1 (H5.out.2.1.more (by have:=HF.out;have:=H5.out.2.2.2.2;omega)) (by omega));clear H4 hb5;go_wp2_with fail
 refine(HS.out _ _).mono ?_;rintro e6 w6 ⟨rfl,hb6⟩;have H6:=Lib.hid (show Mb w6 w2.heap.size 0 0 6 1 1 300 300/\Below w.heap.size w w6/\w2.heap.size+1<=w6.heap.size from
  ⟨H5.out.1.below hb6 H5.out.2.2.2.2,H5.out.2.2.1.trans (hb6.mono H5.out.2.2.1.size),by have:=hb6.size;have:=H5.out.2.2.2.2;omega⟩)
 clear k0 k1 k2 k3 k4 k5 k6 H5 hb6 HS;have k0:=H6.out.1.c0;have k1:=H6.out.1.c1;have k2:=H6.out.1.c2;have k3:=H6.out.1.c3;have k4:=H6.out.1.c4;have k5:=H6.out.1.c5;have k6:=H6.out.1.c6;go_wp2_with fail
 refine(seqs_l0 w6).mono ?_;rintro e7 w7 ⟨rfl,hb7⟩;have H7:=Lib.hid (show Mb w7 w2.heap.size 0 0 6 1 1 300 300/\Below w.heap.size w w7 from
  ⟨H6.out.1.below hb7 H6.out.2.2,H6.out.2.1.trans (hb7.mono H6.out.2.1.size)⟩)
 clear k0 k1 k2 k3 k4 k5 k6 H6 hb7;have k0:=H7.out.1.c0;have k1:=H7.out.1.c1;have k2:=H7.out.1.c2;have k3:=H7.out.1.c3;have k4:=H7.out.1.c4;have k5:=H7.out.1.c5;have k6:=H7.out.1.c6;unfold rg;go_wp2_with fail
 refine(ticks_l0 w7).mono ?_;rintro e8 w8 ⟨rfl,hb8⟩;have H8:=Lib.hid (H7.out.2.trans (hb8.mono H7.out.2.size));clear k0 k1 k2 k3 k4 k5 k6 H7 hb8;unfold rg;go_wp2_with fail
 go_ret
 exact⟨rfl,H8.out⟩
end Bk
end Go.Proofs.YtjligbmickfbdaaGreat
namespace Go.Proofs.YtjligbmickfbdaaGreat
namespace Bk
open Go.RowKit Tk Vi Sq Rd
theorem refenc_any (A:Option Addr) (n c:Nat) (l:List (Int×Int×ByteArray)) (w:World) (hrd:Rd w w.heap.size 3 A n (fl3 l)) (hn:n<=100000) :
  Calls Tryz.prog 15 #[.slice A n c] w fun e w'=>EncAns l e/\Below w.heap.size w w':=by
 by_cases he:encE l=0
 ·exact refenc_yes A n c l w hrd hn he
 ·exact refenc_err A n c l w hrd hn he
theorem encAns_same {l:List (Int×Int×ByteArray)} {S1 S2:ByteArray} (h1:(encE l≠0->S1=⟨#[]⟩)/\(encE l=0-> ∃arr,Sx.Sorted (joinB l) arr/\S1=⟨(blk l arr).toArray⟩)) (h2:(encE l≠0->S2=⟨#[]⟩)/\(encE l=0-> ∃arr,Sx.Sorted (joinB l) arr/\S2=⟨(blk l arr).toArray⟩)):S1=S2:=by
 by_cases he:encE l=0
 ·obtain⟨a1,s1,e1⟩:=h1.2 he
  obtain⟨a2,s2,e2⟩:=h2.2 he;obtain rfl:=Rf.sorted_uniq s1 s2;rw[e1,e2]
 ·rw[h1.1 he,h2.1 he]
def FewP (n:Nat) (l:List (Int×Int×ByteArray)) (w:World) (e:Ending) (w':World):Prop:=∃b:Bool,e=.returned (.bool b)/\w=w'/\(b=true->n<=200/\ ∀r∈l,r.2.2.size<=3000)
def LightP (w:World) (e:Ending) (w':World):Prop:=∃b:Bool,e=.returned (.bool b)/\w=w'
set_option maxHeartbeats 3200000 in
set_option maxRecDepth 100000 in
theorem efew_any (A:Option Addr) (n c:Nat) (l:List (Int×Int×ByteArray)) (w:World) (hrd:Rd w w.heap.size 3 A n (fl3 l)) :
  Calls Tryz.prog 11 #[.slice A n c] w (FewP n l w):=by
 have HR:=Lib.hid hrd;have HLN:=Lib.hid (rd3_len hrd);clear hrd;by_cases hn:200<n
 ·have h1:(200:Int)<(n:Int):=by omega
  go_enter Tryz.func11, Tryz.ntmps11
  go_wp2_with fail
  go_ret
  exact⟨false,rfl,rfl,fun h=>by cases h⟩
 ·have h1: ¬ (200:Int)<(n:Int):=by omega
  go_enter Tryz.func11, Tryz.ntmps11
  go_wp2_with fail
  go_loopg [3] n (fun kx s3 wr=>∃(k:Nat),s3=.int .i64 (k:Int)/\k<=n/\n-k<=kx/\Hid (∀r∈l.take k,r.2.2.size<=3000)/\Aside (w=wr))
  case atStart=>exact⟨0,by go_num,by omega,by omega,(fun r h=>by simp at h),rfl⟩
  case round =>
   obtain⟨k,rfl,hk,hkk,hsm,hw⟩:=hrel;obtain rfl:=hw.out;by_cases hkn:k<n
   ·obtain⟨ad,q,t,d,rfl,hbk,hx,hc0,hc1,hc2⟩:=rec3 HR.out hkn
    by_cases hd:3000<d.size
    ·have hd2:(3000:Int)<(d.size:Int):=by omega
     go_wp2_with fail
     go_ret
     exact⟨false,rfl,rfl,fun h=>by cases h⟩
    ·have hd2: ¬ (3000:Int)<(d.size:Int):=by omega
     have HS2:Hid (∀r∈l.take (k+1),r.2.2.size<=3000):=by
      intro r hr;rw[List.take_add_one,hx] at hr;rcases List.mem_append.1 hr with hr|hr
      ·exact hsm.out r hr
      ·simp only[Option.toList_some,List.mem_singleton] at hr
       subst hr;show d.size<=3000
       omega
     clear hx;go_wp2_with fail
     go_roundg (n-(k+1))
     case measure=>omega
     case rel=>exact⟨k+1,by go_num,by omega,by omega,HS2.out,rfl⟩
   ·obtain rfl:k=n:=by omega
    go_wp2_with fail
    go_ret
    exact⟨true,rfl,rfl,fun _=>⟨by omega,by have:=hsm.out;rwa [List.take_of_length_le (by rw[HLN.out];exact Nat.le_refl _)] at this⟩⟩
set_option maxHeartbeats 3200000 in
set_option maxRecDepth 100000 in
theorem light_any (A:Option Addr) (n c:Nat) (l:List (Int×Int×ByteArray)) (w:World) (hrd:Rd w w.heap.size 3 A n (fl3 l)) (hn:n<=200) (hd:∀r∈l,r.2.2.size<=4611686018427387904) :
  Calls Tryz.prog 12 #[.slice A n c] w (LightP w):=by
 have HR:=Lib.hid hrd;have HD:=Lib.hid hd;clear hrd hd
 go_enter Tryz.func12, Tryz.ntmps12
 go_wp2_with fail
 go_loopg [3,4] n (fun kx s3 s4 wr=>∃(k x:Nat),s4=.int .i64 (k:Int)/\s3=.int .i64 (x:Int)/\x<=700/\k<=n/\n-k<=kx/\Aside (w=wr))
 case atStart=>exact⟨0,0,by go_num,by go_num,by omega,by omega,by omega,rfl⟩
 case round =>
  obtain⟨k,x,rfl,rfl,hx7,hk,hkk,hw⟩:=hrel;obtain rfl:=hw.out;by_cases hkn:k<n
  ·obtain⟨ad,q,t,d,rfl,hbk,hx,hc0,hc1,hc2⟩:=rec3 HR.out hkn
   have hds:=HD.out _ (List.mem_of_getElem? hx);simp only at hds;by_cases hd:700<x+(d.size+12)
   ·have hd2:(700:Int)<(x:Int)+((d.size:Int)+12):=by omega
    go_wp2_with fail
    go_ret
    exact⟨false,rfl,rfl⟩
   ·have hd2: ¬ (700:Int)<(x:Int)+((d.size:Int)+12):=by omega
    go_wp2_with fail
    go_roundg (n-(k+1))
    case measure=>omega
    case rel=>exact⟨k+1,x+(d.size+12),by go_num,by go_num,by omega,by omega,by omega,rfl⟩
  ·obtain rfl:k=n:=by omega
   go_wp2_with fail
   go_ret
   exact⟨true,rfl,rfl⟩
set_option maxHeartbeats 3200000 in
set_option maxRecDepth 100000 in
theorem encodes_law (HAW:∀w:World,Calls Tryz.prog 13 #[] w fun e w'=>e=.returned (.bool true)/\Below w.heap.size w w') (A:Option Addr) (n c:Nat) (l:List (Int×Int×ByteArray)) (w:World) (hrd:Rd w w.heap.size 3 A n (fl3 l)) :
  Calls Tryz.prog 4 #[.slice A n c] w fun e w'=>e=.returned (.bool true)/\Below w.heap.size w w':=by
 have mixed:Tryz.prog.follows .mixedOrders=true:=by kernel_rfl
 have HW:=Lib.hid HAW;have HF:=Lib.hid (efew_any A n c l w hrd);have HLI:=Lib.hid (fun hn hd=>light_any A n c l w hrd hn hd);have HR:=Lib.hid hrd;clear HAW hrd
 go_enter Tryz.func4, Tryz.ntmps4
 go_wp2_with fail
 refine HF.out.mono ?_;rintro e1 w1 ⟨b,rfl,rfl,hb⟩;rcases b with _|_
 ·go_wp2_with fail
  refine(HW.out w).mono ?_;rintro e2 w2 ⟨rfl,hb2⟩;go_wp2_with fail
  go_ret
  exact⟨rfl,hb2⟩
 ·obtain⟨hn,hsz⟩:=hb rfl
  clear hb;go_wp2_with fail
  refine(HLI.out hn (fun r h=>by have:=hsz r h;omega)).mono ?_;rintro e2 w2 ⟨b,rfl,rfl⟩;rcases b with _|_
  ·go_wp2_with fail
   refine(HW.out w).mono ?_;rintro e2 w2 ⟨rfl,hb2⟩;go_wp2_with fail
   go_ret
   exact⟨rfl,hb2⟩
  ·go_wp2_with fail
   refine(enc_any A n c l w HR.out (by omega)).mono ?_;rintro e3 w3 ⟨⟨S1,rfl,hS1⟩,hb3⟩;have HB3:=Lib.hid hb3;have HS1:=Lib.hid hS1;have HR3:=Lib.hid (HR.out.ext hb3);clear hb3 hS1;go_wp2_with fail
   refine(refenc_any A n c l w3 HR3.out (by omega)).mono ?_;rintro e4 w4 ⟨⟨S2,rfl,hS2⟩,hb4⟩;obtain rfl:=encAns_same HS1.out hS2;have HB4:=Lib.hid (ext_trans HB3.out hb4);clear hb4 hS2;generalize encE l=E at *
   go_wp2_with fail
   refine(HW.out w4).mono ?_;rintro e5 w5 ⟨rfl,hb5⟩;have HB5:=Lib.hid (ext_trans HB4.out hb5);clear hb5;go_wp2_with fail
   go_ret
   exact⟨rfl,HB5.out⟩
theorem encodes_any (A:Option Addr) (n c:Nat) (l:List (Int×Int×ByteArray)) (w:World) (hrd:Rd w w.heap.size 3 A n (fl3 l)) (_hnc:n<=c) (_hcm:c<=maxLen) :
  Calls Tryz.prog 4 #[.slice A n c] w fun e w'=>e=.returned (.bool true)/\Below w.heap.size w w':=encodes_law bawake_any A n c l w hrd
end Bk
end Go.Proofs.YtjligbmickfbdaaGreat
namespace Go.Proofs.YtjligbmickfbdaaGreat
namespace Rd
open Go.RowKit Go.ChangeShapes Go.WideShapes Go.Deep
theorem fl3_inv {l:List (Int×Int×ByteArray)} {j:Nat} {u:Value} (h:(fl3 l)[j]? =some u):∃(k s:Nat) (x:Int×Int×ByteArray),j=k*3+s/\s<3/\l[k]? =some x/\(cl3 x)[s]? =some u:=by
 have hj:j<l.length*3:=by rw[<-length_fl3];exact(List.getElem?_eq_some_iff.1 h).1
 have hk:j/3<l.length:=by omega
 obtain⟨x,hx⟩:∃x,l[j/3]? =some x:=⟨_,List.getElem?_eq_getElem hk⟩
 obtain⟨h1,h2,h3⟩:=fl3_at l (j/3) x hx;have hs:j%3<3:=Nat.mod_lt _ (by omega);refine⟨j/3,j%3,x,by omega,hs,hx,?_⟩;rw[show j=j/3*3+j%3 by omega] at h;generalize j%3=s at *
 rcases s with _|_|_|s
 ·rw[Nat.add_zero] at h;exact h1.symm.trans h
 ·exact h2.symm.trans h
 ·exact h3.symm.trans h
 ·omega
theorem open_recs {H:Type} {enc:TypeId×Value->H} {P:Program} {w:World} {base:Nat} {r:Reach} {t e:TypeId} {f0 f1 f2:Field} {v:Value} {d:DataW H} {p:List MemPlace}
  (ht:P.underlying t=some (.slice e)) (he:P.underlying e=some (.struct #[f0,f1,f2])) (hone:oneCellFields P #[f0,f1,f2]=true) (hc:P.cellsOf e=3)
  (t0:P.underlying f0.type=some (.int .i64)) (t1:P.underlying f1.type=some (.int .i64)) (t2:P.underlying f2.type=some .string)
  (hv:Value.okWide P w r base t v) (h:DataW.Trod enc P w 0 (fun _=>true) true t v d p) :
  ∃(A:Option Addr) (n c:Nat) (l:List (Int×Int×ByteArray)),v=.slice A n c/\Rd w w.heap.size 3 A n (fl3 l)/\n<=c/\c<=maxLen/\l.length=n:=by
 obtain⟨a0,len,cap,rfl⟩:=okWide_slice ht hv;obtain⟨fuel,hf⟩:=h;rcases Go.Deep.open_slice ht hf with ⟨hcs,-⟩|⟨a,len',cap',m,n,D,Pl,hcs,-,hl,hm,hmm,-,hx⟩
 ·simp[Value.cells] at hcs
  obtain⟨rfl,rfl,rfl⟩:=hcs;exact⟨none,0,0,[],rfl,Rd.nil,Nat.le_refl _,by simp[maxLen],rfl⟩
 ·simp[Value.cells] at hcs
  obtain⟨rfl,rfl,rfl⟩:=hcs;rw[hc] at hx;have hlm:len<=m:=by rw[hmm,if_pos rfl];exact hl
  have hex:∀i,i<len-> ∃x:Int×Int×ByteArray,∀s u,(cl3 x)[s]? =some u->w.cell? (a.add (i*3+s))=some u:=by
   intro i hi;obtain⟨cs',hcl,htr⟩:=hx i (by omega);obtain⟨-,hlen,hat⟩:=World.cells?_some hcl;obtain⟨ys,k,-,-,-,hyl,hfl⟩:=DataW.trod_struct he htr
   match cs',hlen with
   | [c0,c1,c2],_ =>
     have g:∀(j:Nat) (f:Field),#[f0,f1,f2][j]? =some f-> ∃y,DataW.trod enc P w 0 (fun _=>true) true k f.type (([c0,c1,c2].drop j).take 1)=some y:=by
      intro j f hj;obtain⟨o1,o2⟩:=Go.Deep.hone_of hone j f hj;have:=hfl j f hj;rw[o1,o2] at this;have hjl:j<ys.length:=by rw[hyl];exact(Array.getElem?_eq_some_iff.1 hj).1
      exact⟨_,this.trans (List.getElem?_eq_getElem hjl)⟩
     obtain⟨y0,g0⟩:=g 0 f0 rfl;obtain⟨y1,g1⟩:=g 1 f1 rfl;obtain⟨y2,g2⟩:=g 2 f2 rfl;obtain⟨q,hq,-,-⟩:=DataW.trod_int t0 g0;obtain⟨tk,htk,-,-⟩:=DataW.trod_int t1 g1;obtain⟨d,hd,-,-⟩:=DataW.trod_string t2 g2;simp at hq htk hd
     subst hq;subst htk;subst hd;refine⟨(q,tk,d),fun s u hu=>?_⟩;rw[<-add_add];have hs:s<3:=(List.getElem?_eq_some_iff.1 hu).1;rw[hat s hs];exact hu
  obtain⟨R,hR⟩:=Go.Deep.choose_lt hex;refine⟨some a,len,cap,(List.range len).map R,rfl,⟨by rw[length_fl3];simp,fun hn=>⟨a,rfl,?_,?_⟩⟩,hl,hm,by simp⟩
  ·have h0:=World.block_lt_of_cell? w _ (hR 0 hn 0 _ rfl)
   rwa [add_block] at h0
  ·intro j u hu
   obtain⟨k,s,x,rfl,hs,hk,hc⟩:=fl3_inv hu;rw[List.getElem?_map] at hk;rcases Nat.lt_or_ge k len with hkl|hkl
   ·rw[List.getElem?_eq_getElem (by simpa using hkl)] at hk
    simp at hk
    subst hk;exact hR k hkl s u hc
   ·rw[List.getElem?_eq_none (by simpa using hkl)] at hk
    cases hk
end Rd
end Go.Proofs.YtjligbmickfbdaaGreat
