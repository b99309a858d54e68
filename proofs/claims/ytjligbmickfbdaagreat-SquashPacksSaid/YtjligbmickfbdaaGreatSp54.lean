/- varveref14: Symbols, Pack. The law SquashPacks. -/
import Derived.Test.YtjligbmickfbdaaGreatSp52
import Derived.Test.YtjligbmickfbdaaGreatSp53
import Derived.Test.YtjligbmickfbdaaGreatSp40
import Derived.Test.YtjligbmickfbdaaGreatSp48
namespace Go.Proofs.YtjligbmickfbdaaGreat
namespace Rf
open Go.RowKit Vi Zr Sq Hf
set_option maxHeartbeats 6400000 in
set_option maxRecDepth 100000 in
theorem refsymbols_any (s:ByteArray) (w:World) (hs:s.size<=20000) :
  Calls Tryz.prog 9 #[.string s] w fun e w'=>∃arr v,Sx.Sorted s.data.toList arr/\e=.returned (.tuple #[v,.int .i64 (Bw.pri arr:Int),.int .i64 0])/\Own w' w.heap.size v (sy s.data.toList arr)/\Below w.heap.size w w':=by
 have mixed:Tryz.prog.follows .mixedOrders=true:=by kernel_rfl
 have HF:=Lib.hid (refforward_any s w hs)
 go_enter Tryz.func9, Tryz.ntmps9
 go_wp2_with fail
 refine HF.out.mono ?_;rintro e1 w1 ⟨arr,hso,rfl,hb1⟩;have hll:=Bw.length_lst hso;obtain⟨t,ht⟩:∃t:ByteArray,t=rowT (Bw.lst s.data.toList arr):=⟨_,rfl⟩
 have htl:t.data.toList=Bw.lst s.data.toList arr:=by rw[ht];rfl
 have hts:t.size=s.size:=by
  have:t.size=t.data.toList.length:=rfl;rw[this,htl,hll];rfl
 rw[<-ht];have HR:=Lib.hid (ranks_any t w1 (by omega));rw[htl] at HR;have HSO:=Lib.hid hso;have HB1:=Lib.hid hb1;have hrl:=Fr.length_rks (Bw.lst s.data.toList arr) Fr.row0;have hrok:=(rks_ok (Bw.lst s.data.toList arr)).1;have hsy:sy s.data.toList arr=pk 0 (Fr.rks Fr.row0 (Bw.lst s.data.toList arr)):=rfl;have HSY:=Lib.hid hsy;have HROK:=Lib.hid hrok;have hrl2:(Fr.rks Fr.row0 (Bw.lst s.data.toList arr)).length=s.size:=by rw[hrl,hll];rfl
 generalize Fr.rks Fr.row0 (Bw.lst s.data.toList arr)=rk at *
 clear ht htl hso hb1 hll hrl hsy hrok;go_wp2_with fail
 refine HR.out.mono ?_;rintro e2 w2 ⟨v2,rfl,hown2,hb2⟩;obtain⟨A2,c2,rfl,_,_,hrd2⟩:=hown2.rd;rw[hrl2] at hrd2 ⊢;have HP:=Lib.hid (packR_any A2 s.size c2 rk w2 (by omega) hrd2);have HB2:=Lib.hid (ext_trans HB1.out hb2);clear hown2 hrd2 hb2 HR;go_wp2_with fail
 refine HP.out.mono ?_;rintro e3 w3 ⟨v3,rfl,hown3,hb3⟩;have hpe:packE rk=0:=if_pos HROK.out;have hpl:packL rk=pk 0 rk:=if_pos HROK.out;rw[hpl,<-HSY.out] at hown3;rw[hpe];have HX:=Lib.hid (And.intro (hown3.lower HB2.out.size) (ext_trans HB2.out hb3));clear hown3 hb3 hpe hpl HP;go_wp2_with fail
 go_ret3
 exact⟨arr,_,HSO.out,rfl,HX.out.1,HX.out.2⟩
theorem vtxt_len (N:Nat) (h:N<=20000):(vtxt N).size<=9:=by
 show(putV N).toArray.size<=9
 rw[List.size_toArray]
 exact length_putV_le N 8 (by have:(128:Nat)^(8+1)=9223372036854775808:=by decide
                              omega)
theorem hbyt_len (l:List Int) (h:l.length<=20000):(hbyt l).length<=60000:=by
 have:=hb_len l h;unfold hbyt;rw[Bt.length_byt];omega
set_option maxHeartbeats 6400000 in
set_option maxRecDepth 100000 in
theorem refpack_any (s:ByteArray) (w:World) (hs:s.size<=20000) :
  Calls Tryz.prog 7 #[.string s] w fun e w'=>∃arr,Sx.Sorted s.data.toList arr/\e=.returned (.tuple #[.string ⟨(packed s.data.toList arr).toArray⟩,.int .i64 0])/\Below w.heap.size w w':=by
 have mixed:Tryz.prog.follows .mixedOrders=true:=by kernel_rfl
 have HS:=Lib.hid (refsymbols_any s w hs)
 go_enter Tryz.func7, Tryz.ntmps7
 go_wp2_with fail
 refine HS.out.mono ?_;rintro e1 w1 ⟨arr,v1,hso,rfl,hown1,hb1⟩;obtain⟨A1,c1,rfl,hc1,hm1,hr1⟩:=hown1.rd;have hsl:=sy_len hso;have hpl:=pri_le hso;have hsz:s.data.toList.length=s.size:=rfl;rw[hsz] at hsl hpl;have hok:=sy_ok (s:=s.data.toList) (A:=arr);have hpk:(vtxt s.size++vtxt (Bw.pri arr)++vtxt (sy s.data.toList arr).length++⟨(hbyt (sy s.data.toList arr)).toArray⟩:ByteArray)=⟨(packed s.data.toList arr).toArray⟩:=by
  apply ByteArray.ext
  simp[ByteArray.data_append,vtxt,packed,hsz]
 have h1:=vtxt_len s.size hs;have h2:=vtxt_len (Bw.pri arr) (by omega);have h3:=vtxt_len (sy s.data.toList arr).length (by omega);have h4:=hbyt_len (sy s.data.toList arr) (by omega);have HE:=Lib.hid (fun A c (w:World) hr=>refencode_any A (sy s.data.toList arr).length c (sy s.data.toList arr) w (by omega) hok hr);have HPU:=Lib.hid (fun(N:Nat) (hN:N<=20000) (w:World)=>refput_any (N+1) N w (by omega) (by omega));have HPK:=Lib.hid hpk;have HSO:=Lib.hid hso;have HB1:=Lib.hid hb1;have HR1:=Lib.hid hr1;have hT:(⟨(hbyt (sy s.data.toList arr)).toArray⟩:ByteArray).size=(hbyt (sy s.data.toList arr)).length:=List.size_toArray ..;generalize (⟨(hbyt (sy s.data.toList arr)).toArray⟩:ByteArray)=TT at *
 generalize hPPe:packed s.data.toList arr=PP at *
 have HPP:=Lib.hid hPPe;clear hPPe;generalize sy s.data.toList arr=sy0 at *
 generalize hpr:Bw.pri arr=pr at *
 have HPR:=Lib.hid hpr;have h4:TT.size<=60000:=by omega
 have hprb:pr<=20000:=by omega
 have hslb:sy0.length<=20000:=by omega
 have HPa:=Lib.hid (fun w=>HPU.out s.size hs w);have HPb:=Lib.hid (fun w=>HPU.out pr hprb w);have HPc:=Lib.hid (fun w=>HPU.out sy0.length hslb w);generalize vtxt s.size=Ta at *
 generalize vtxt pr=Tb at *
 generalize vtxt sy0.length=Tc at *
 have f1:Ta.size+Tb.size<=9223372036854775807:=by omega
 have f2:(Ta++Tb).size+Tc.size<=9223372036854775807:=by rw[ByteArray.size_append];omega
 have f3:(Ta++Tb++Tc).size+TT.size<=9223372036854775807:=by rw[ByteArray.size_append,ByteArray.size_append];omega
 clear hso hown1 hb1 hr1 hok hpk hpr hsz HS hT HPU;go_wp2_with fail
 refine(HPa.out _).mono ?_;rintro e2 w2 ⟨rfl,hb2⟩;have HB2:=Lib.hid (ext_trans HB1.out hb2);have HR2:=Lib.hid (HR1.out.ext hb2);clear hb2;go_wp2_with fail
 refine(HPb.out _).mono ?_;rintro e3 w3 ⟨rfl,hb3⟩;have HB3:=Lib.hid (ext_trans HB2.out hb3);have HR3:=Lib.hid (HR2.out.ext hb3);clear hb3;go_wp2_with fail
 refine(HPc.out _).mono ?_;rintro e4 w4 ⟨rfl,hb4⟩;have HB4:=Lib.hid (ext_trans HB3.out hb4);have HR4:=Lib.hid (HR3.out.ext hb4);clear hb4;go_wp2_with fail
 refine(HE.out A1 c1 w4 HR4.out).mono ?_;rintro e5 w5 ⟨rfl,hb5⟩;have HB5:=Lib.hid (ext_trans HB4.out hb5);clear hb5;go_wp2_with fail
 go_ret2
 exact⟨arr,HSO.out,by rw[HPP.out,<-HPK.out];rfl,HB5.out⟩
end Rf
end Go.Proofs.YtjligbmickfbdaaGreat
namespace Go.Proofs.YtjligbmickfbdaaGreat
namespace Sq
open Go.RowKit
set_option maxHeartbeats 6400000 in
set_option maxRecDepth 100000 in
theorem packs_law (s:ByteArray) (w:World):Calls Tryz.prog 3 #[.string s] w fun e w'=>e=.returned (.bool true)/\Below w.heap.size w w':=by
 have mixed:Tryz.prog.follows .mixedOrders=true:=by kernel_rfl
 by_cases hs:400<s.size
 ·have hi:(400:Int)<(s.size:Int):=by omega
  go_enter Tryz.func3, Tryz.ntmps3
  go_wp2_with fail
  refine(awake_any w).mono ?_;rintro e1 w1 ⟨rfl,hb⟩;have HB:=Lib.hid hb;clear hb;go_wp2_with fail
  go_ret
  exact⟨rfl,HB.out⟩
 have hi1: ¬ (400:Int)<(s.size:Int):=by omega
 have H1:=Lib.hid (fun w=>spack_any s w (by omega));have H2:=Lib.hid (fun w=>Rf.refpack_any s w (by omega));have H3:=Lib.hid (fun w=>symbols_any s w (by omega));have H4:=Lib.hid (fun w=>Rf.refsymbols_any s w (by omega));have hss:s.size<=400:=by omega
 go_enter Tryz.func3, Tryz.ntmps3
 go_wp2_with fail
 refine(H1.out w).mono ?_;rintro e1 w1 ⟨arr,hso,rfl,hb1⟩;have HSO:=Lib.hid hso;have hsl:=sy_len hso;have hsz:s.data.toList.length=s.size:=rfl;rw[hsz] at hsl;have HB1:=Lib.hid hb1;generalize hPP:packed s.data.toList arr=PP;have HPP:=Lib.hid hPP;clear hso hb1 hsz hPP;go_wp2_with fail
 refine(H2.out w1).mono ?_;rintro e2 w2 ⟨arr2,hso2,rfl,hb2⟩;obtain rfl:=Rf.sorted_uniq HSO.out hso2;rw[HPP.out];have HB2:=Lib.hid (ext_trans HB1.out hb2);clear hso2 hb2;go_wp2_with fail
 refine(H3.out w2).mono ?_;rintro e3 w3 ⟨arr3,v3,hso3,rfl,hown3,hb3⟩;obtain rfl:=Rf.sorted_uniq HSO.out hso3;have HB3:=Lib.hid (ext_trans HB2.out hb3);have HO3:=Lib.hid hown3;clear hso3 hown3 hb3;go_wp2_with fail
 refine(H4.out w3).mono ?_;rintro e4 w4 ⟨arr4,v4,hso4,rfl,hown4,hb4⟩;obtain rfl:=Rf.sorted_uniq HSO.out hso4;have hown3:=own_below HO3.out hb4 (Nat.le_refl _);obtain⟨A3,c3,rfl,-,-,hr3⟩:=Own.rd hown3;obtain⟨A4,c4,rfl,-,-,hr4⟩:=hown4.rd;have HB4:=Lib.hid (ext_trans HB3.out hb4);have HSA:=Lib.hid (fun(wx:World) (h3:Rd wx w4.heap.size 1 A3 _ _) (h4:Rd wx w4.heap.size 1 A4 _ _)=>Sm.same_any A3 A4 (sy s.data.toList arr).length (sy s.data.toList arr).length c3 c4 (sy s.data.toList arr) (sy s.data.toList arr) wx (by unfold maxLen;omega) _ _ h3 h4);have HR3:=Lib.hid hr3;have HR4:=Lib.hid hr4;clear hso4 hown3 hown4 hb4 hr3 hr4;have HEQ:Hid ((sy s.data.toList arr==sy s.data.toList arr)=true):=by show _=_;exact beq_self_eq_true _
 generalize sy s.data.toList arr=Y at *
 generalize Bw.pri arr=pr at *
 go_wp2_with fail
 refine(HSA.out w4 HR3.out HR4.out).mono ?_;rintro e5 w5 ⟨rfl,q,rfl⟩;rw[HEQ.out];have HB5:=Lib.hid (ext_trans HB4.out (ext_drewN w4 q));generalize w4.drewN q=w5 at *
 go_wp2_with fail
 refine(awake_any w5).mono ?_;rintro e6 w6 ⟨rfl,hb6⟩;have HB6:=Lib.hid (ext_trans HB5.out hb6);clear hb6;go_wp2_with fail
 go_ret
 exact⟨rfl,HB6.out⟩
end Sq
end Go.Proofs.YtjligbmickfbdaaGreat
