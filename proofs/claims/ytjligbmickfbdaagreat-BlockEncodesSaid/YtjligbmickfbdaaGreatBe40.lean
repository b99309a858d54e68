/- squash.Pack. varint.Get. -/
import Derived.Test.YtjligbmickfbdaaGreatBe24
import Derived.Test.YtjligbmickfbdaaGreatBe39
namespace Go.Proofs.YtjligbmickfbdaaGreat
namespace Sq
open Go.RowKit Zr Vi
theorem ba_append (a b:List UInt8):(⟨a.toArray⟩:ByteArray)++⟨b.toArray⟩=⟨(a++b).toArray⟩:=by
 apply ByteArray.ext
 simp
theorem tb_runs_le (l:List Int):(Tb.tb (Tb.runs (Hf.lns l))).length<=10000:=by
 have hg:=Hf.lns_good l;have hlen:=Hf.length_lns l;have h1:=Tb.runs_good (Hf.lns l) hg.rng;have h2:=Tb.length_le_flat _ _ h1.1;rw[h1.2] at h2;have:=Tb.length_tb_le (Tb.runs (Hf.lns l)) (fun x hx=>by
  have:=Tb.good_mem _ _ h1.1 x hx;rw[h1.2] at this;omega)
 omega
theorem hbyt_le (l:List Int) (h:l.length<=20000):(Hf.hbyt l).length<=100000:=by
 have h1:=tb_runs_le l;have h2:=Hf.enc_len (Hf.lns l) (Hf.lns_good l).rng l;have h3:(Hf.hb l).length<=310000:=by
  unfold Hf.hb;rw[List.length_append];omega
 have h4:=Bt.length_byt (Hf.hb l);show(Bt.byt (Hf.hb l)).length<=_
 omega
def puts (N:List Nat):List UInt8:=N.flatMap putV
theorem puts_take (N:List Nat) (k:Nat) (h:k<N.length):puts (N.take (k+1))=puts (N.take k)++putV N[k]:=by
 unfold puts;rw[List.take_add_one,List.getElem?_eq_getElem h,List.flatMap_append];simp
set_option maxHeartbeats 6400000 in
set_option maxRecDepth 100000 in
theorem spack_any (s:ByteArray) (w:World) (hs:s.size<=20000) :
  Calls Tryz.prog 6 #[.string s] w fun e w'=>∃arr,Sx.Sorted s.data.toList arr/\e=.returned (.tuple #[.string ⟨(packed s.data.toList arr).toArray⟩,.int .i64 0])/\Below w.heap.size w w':=by
 have mixed:Tryz.prog.follows .mixedOrders=true:=by kernel_rfl
 have HS:=Lib.hid (symbols_any s w hs)
 go_enter Tryz.func6, Tryz.ntmps6
 go_wp2_with fail
 refine HS.out.mono ?_;rintro e1 w1 ⟨arr,v1,hso,rfl,hown1,hb1⟩;obtain⟨A1,c1,rfl,hc1,hm1,hr1⟩:=hown1.rd;have hsl:=sy_len hso;have hpl:=pri_le hso;have hsz:s.data.toList.length=s.size:=rfl;rw[hsz] at hsl hpl;have hok:=sy_ok (s:=s.data.toList) (A:=arr);have hpk:packed s.data.toList arr=puts [s.size,Bw.pri arr,(sy s.data.toList arr).length]++Hf.hbyt (sy s.data.toList arr):=by
  unfold packed puts;simp only[List.flatMap_cons,List.flatMap_nil,List.append_nil,List.append_assoc,hsz]
 have HPK:=Lib.hid hpk;have HSO:=Lib.hid hso;have HB1:=Lib.hid hb1;have HR1:=Lib.hid hr1;have HOK:=Lib.hid hok;generalize sy s.data.toList arr=sy0 at *
 generalize hpr:Bw.pri arr=pr at *
 have HPR:=Lib.hid hpr;clear hso hown1 hb1 hr1 hok hpk hpr hsz HS;go_wp2_with fail
 obtain⟨N,hN⟩:∃N,N=[s.size,pr,sy0.length]:=⟨_,rfl⟩
 have hNl:N.length=3:=by rw[hN];rfl
 have hNb:∀x∈N,x<=20000:=by
  rw[hN];intro x hx;simp at hx
  omega
 have hlit:=rd_lit w1 3 (N.map fun x:Nat=>(x:Int));have harr:(((N.map fun x:Nat=>(x:Int)).map (Value.int .i64)).toArray)= #[.int .i64 (s.size:Int),.int .i64 (pr:Int),.int .i64 (sy0.length:Int)]:=by rw[hN];rfl
 rw[harr] at hlit;rw[<-hN] at HPK;have hbw:Below w1.heap.size w1 (w1.alloc (.cells #[.int .i64 (s.size:Int),.int .i64 (pr:Int),.int .i64 (sy0.length:Int)] 3)):=(Below.refl _ _).alloc (Nat.le_refl _) _;have HL:=Lib.hid (And.intro hlit hbw);have HNB:=Lib.hid hNb;have hsyl:sy0.length<=20000:=by omega
 clear hlit harr hbw hNb hN;generalize w1.alloc (.cells #[.int .i64 (s.size:Int),.int .i64 (pr:Int),.int .i64 (sy0.length:Int)] 3)=w2 at *
 have hps:(⟨#[]⟩:ByteArray)=⟨(puts (N.take 0)).toArray⟩:=rfl;go_loopg [7,29] 3 (fun kx s7 s29 wr=>∃(k:Nat) (t:ByteArray),s7=.string t/\s29=.int .i64 (k:Int)/\k<=3/\3-k<=kx/\t.size<=9*k/\Hid (t=⟨(puts (N.take k)).toArray⟩)/\Aside (Below w2.heap.size w2 wr))
 case atStart=>exact⟨0,_,rfl,rfl,by omega,by omega,Nat.le_refl 0,hps,Below.refl _ _⟩
 case round =>
  clear hps;obtain⟨k,t,rfl,rfl,hk,hkx,hts,ht,H⟩:=hrel;by_cases hlt:k<3
  ·have hrd:=HL.out.1.below H.out
   rw[List.length_map,hNl] at hrd;obtain⟨ad,x,e1,had,hx,hcell⟩:=hrd.int1 (k:=k) hlt;cases e1
   rw[Addr.add_lit,Nat.zero_add] at hcell;have hkl:k<N.length:=by omega
   rw[List.getElem?_map,List.getElem?_eq_getElem hkl,Option.map_some,Option.some.injEq] at hx;subst hx;have hnb:=HNB.out N[k] (List.getElem_mem hkl);have HP:=Lib.hid (put_any N[k] wr (by omega));have hst:t++vtxt N[k]=⟨(puts (N.take (k+1))).toArray⟩:=by
    rw[ht.out,puts_take N k hkl];exact ba_append _ _
   have HST:=Lib.hid hst;have hvs:(vtxt N[k]).size<=9:=by
    show(putV N[k]).toArray.size<=9
    rw[List.size_toArray]
    exact length_putV_le N[k] 8 (by have:(128:Nat)^(8+1)=9223372036854775808:=by decide
                                    omega)
   generalize N[k]=y at *
   clear hrd had hst hkl;go_wp2_with fail
   refine HP.out.mono ?_;rintro e3 w3 ⟨rfl,hb3⟩;have HX:Aside (Below w2.heap.size w2 w3):=ext_trans H.out hb3;generalize vtxt y=vt at *
   clear hb3 HP;go_wp2_with fail
   go_roundg (3-(k+1))
   case measure=>omega
   case rel=>exact⟨k+1,_,rfl,by go_num,by omega,by omega,by(rw[ByteArray.size_append];omega),HST.out,HX.out⟩
  ·obtain rfl:k=3:=by omega
   have htt:t=⟨(puts N).toArray⟩:=by rw[ht.out,List.take_of_length_le (by omega)]
   have hb14:Below w1.heap.size w1 wr:=ext_trans HL.out.2 H.out;have hr4:=(HR1.out.below hb14).more hb14.size;have HE:=Lib.hid (Hf.encode_any A1 sy0.length c1 sy0 wr hsyl HOK.out hr4);have HBB:=Lib.hid (ext_trans HB1.out hb14);have hfin:t++⟨(Hf.hbyt sy0).toArray⟩=⟨(packed s.data.toList arr).toArray⟩:=by
    rw[HPK.out,htt];exact ba_append _ _
   have HFIN:=Lib.hid hfin;have hbs:(⟨(Hf.hbyt sy0).toArray⟩:ByteArray).size<=1000000:=by
    show(Hf.hbyt sy0).toArray.size<=_
    rw[List.size_toArray];exact Nat.le_trans (hbyt_le sy0 hsyl) (by omega)
   generalize (⟨(Hf.hbyt sy0).toArray⟩:ByteArray)=hb at *
   clear htt hb14 hr4 hfin H ht;go_wp2_with fail
   refine HE.out.mono ?_;rintro e5 w5 ⟨rfl,hb5⟩;have HX:=Lib.hid (ext_trans HBB.out hb5);clear hb5 HE;go_wp2_with fail
   go_ret2
   exact⟨arr,HSO.out,by rw[<-HFIN.out];rfl,HX.out⟩
end Sq
end Go.Proofs.YtjligbmickfbdaaGreat
namespace Go.Proofs.YtjligbmickfbdaaGreat
namespace Vi
open Go.RowKit
def getV (l:List UInt8) (at_:Int):Int×Int×Int :=
 if at_<0∨(l.length:Int)<at_ then(0,0,2)
 else if(gv 0 0 (l.drop at_.toNat)).2.2=0 then(((gv 0 0 (l.drop at_.toNat)).1:Nat),at_+((gv 0 0 (l.drop at_.toNat)).2.1:Nat),0)
 else(0,0,(gv 0 0 (l.drop at_.toNat)).2.2)
theorem and127 (c:Nat) (h:c<256):bits .and .u8 (c:Int) 127=((c%128:Nat):Int):=by
 have:=bits_mask .u8 8 (by decide) wraps_u8 7 (by decide) (c:Int) (by omega) (by omega);simpa using this
theorem wraps_i64 (n:Int) (h₀:0<=n) (h₁:n<2^63):IntKind.i64.wrap n=n:=by
 have e:(2:Int)^63=9223372036854775808:=by decide
 rw[IntKind.wrap_i64];omega
theorem wrap64_nat (n:Nat) (h:n<9223372036854775808):wrap64 (n:Int)=n:=by unfold wrap64;omega
theorem join7 (m c k:Nat) (hm:m<128^k) (hc:c<256) (hk:k<9):bits .or .i64 (m:Int) (wrap64 (wrap64 (bits .and .u8 (c:Int) 127)*2^(7*k)))=((m+c%128*128^k:Nat):Int):=by
 have hp:(2:Int)^(7*k)=((128^k:Nat):Int):=by rw[show(128:Nat)=2^7 by rfl,<-Nat.pow_mul];simp
 have h9:128^(k+1)<=9223372036854775808:=Nat.le_trans (Nat.pow_le_pow_right (by omega) (show k+1<=9 by omega)) (by decide);rw[Nat.pow_succ] at h9;have hq:=Nat.pow_pos (n:=k) (show 0<128 by omega);rw[and127 c hc,wrap64_nat _ (by omega),hp,<-Int.natCast_mul];have hle:c%128*128^k<=127*128^k:=Nat.mul_le_mul_right _ (by omega);rw[wrap64_nat _ (by omega)];have:=(bits_nat .i64 63 (by decide) wraps_i64 m (c%128*128^k) (by omega) (by omega)).2;rw[this];congr 1;rw[Nat.or_comm,show c%128*128^k=2^(7*k)*(c%128) by rw[Nat.mul_comm,Nat.pow_mul],<-Nat.two_pow_add_eq_or_of_lt (by rw[Nat.pow_mul];exact hm)];omega
set_option maxHeartbeats 1600000 in
set_option maxRecDepth 100000 in
theorem get_any (s:ByteArray) (i:Int) (w:World) (hs:s.size<=1000000) :
  Calls Tryz.prog 70 #[.string s,.int .i64 i] w fun e w'=>e=.returned (.tuple #[.int .i64 (getV s.data.toList i).1,.int .i64 (getV s.data.toList i).2.1,.int .i64 (getV s.data.toList i).2.2])/\w=w':=by
 have hl:s.data.toList.length=s.size:=rfl;by_cases h0:i<0
 ·have hg:getV s.data.toList i=(0,0,2):=if_pos (.inl h0)
  rw[hg];clear hg
  go_enter Tryz.func70, Tryz.ntmps70
  go_wp2_with fail
  go_step3
  go_wp2
  try rw[Exit.noGoto_ret]
  go_ret3
  exact⟨rfl,rfl⟩
 by_cases h1:(s.size:Int)<i
 ·have hg:getV s.data.toList i=(0,0,2):=if_pos (.inr (by omega))
  rw[hg];clear hg
  go_enter Tryz.func70, Tryz.ntmps70
  go_wp2_with fail
  go_step3
  go_wp2
  try rw[Exit.noGoto_ret]
  go_ret3
  exact⟨rfl,rfl⟩
 obtain⟨a,rfl⟩:=Int.eq_ofNat_of_zero_le (show 0<=i by omega);have hg:getV s.data.toList (a:Int)=if(gv 0 0 (s.data.toList.drop a)).2.2=0 then((((gv 0 0 (s.data.toList.drop a)).1:Nat):Int),((a:Int)+(((gv 0 0 (s.data.toList.drop a)).2.1:Nat):Int)),(0:Int)) else(0,0,(gv 0 0 (s.data.toList.drop a)).2.2):=by
  unfold getV;rw[if_neg (by omega)];rfl
 have HG:=Lib.hid hg;generalize getV s.data.toList (a:Int)=R at HG ⊢;have b1:decide (s.size<a)=false:=decide_eq_false (by omega);have b2:decide ((a:Int)<0)=false:=decide_eq_false (by omega);clear hg hl h0
 go_enter Tryz.func70, Tryz.ntmps70
 go_wp2_with fail
 go_step3
 go_wp2_with fail
 go_step3
 go_wp2_with fail
 go_loopw [4,5,6,7,8] (fun n _ _ sh i wr=>∃(k m:Nat),n=.int .i64 m/\sh=.int .i64 ((7*k:Nat):Int)/\i=.int .i64 ((a+k:Nat):Int)/\k<=9/\a+k<=s.size/\Hid (m<128^k)/\Hid (gv k m (s.data.toList.drop (a+k))=gv 0 0 (s.data.toList.drop a))/\w=wr) (fun _ _ _ _ i _=>s.size-(intOf i).toNat)
 case atStart=>exact⟨0,0,rfl,rfl,rfl,by omega,by omega,(by show(0:Nat)<_;simp),rfl,rfl⟩
 case round =>
  obtain⟨k,m,rfl,rfl,rfl,hk,hak,hm,heq,rfl⟩:=hrel;by_cases hlt:a+k<s.size
  ·by_cases hk9:k<9
   ·have hgv:gv k m (s.data.toList.drop (a+k))=if 128<=s[a+k].toNat then gv (k+1) (m+(s[a+k].toNat-128)*128^k) (s.data.toList.drop (a+(k+1))) else if s[a+k].toNat=0/\0<k then(0,0,5) else(m+s[a+k].toNat*128^k,k+1,0):=by
     rw[drop_at s.data.toList (a+k) s[a+k] (by rw[List.getElem?_eq_getElem (show a+k<s.data.toList.length from hlt)];rfl)];simp only[gv];rw[if_neg (by omega)];rfl
    have hcb:=s[a+k].toNat_lt;generalize hc:s[a+k]=c at hgv hcb;have hj:=join7 m c.toNat k hm.out hcb hk9;have Hc:=Lib.hid hc;have Hgv:=Lib.hid hgv;have HJ:=Lib.hid hj;clear hgv hj;by_cases hc1:128<=c.toNat
    ·go_wp2
     go_roundw
     case rel =>
      have e:m+c.toNat%128*128^k=m+(c.toNat-128)*128^k:=by congr 2;omega
      refine⟨k+1,m+c.toNat%128*128^k,by rw[HJ.out],by go_num,by go_num,by omega,by omega,?_,?_,trivial⟩
      ·show _<_
       have:=hm.out;rw[Nat.pow_succ];have:c.toNat%128*128^k<=127*128^k:=Nat.mul_le_mul_right _ (by omega);omega
      ·show _=_
       rw[<-heq.out,Hgv.out,if_pos hc1,e]
     case measure=>simp[intOf];omega
    ·by_cases hc2:c.toNat=0
     ·by_cases hk0:0<k
      ·go_wp2
       try rw[Exit.noGoto_ret]
       go_ret3
       have hgv:=Hgv.out;rw[if_neg hc1,if_pos ⟨hc2,hk0⟩] at hgv;rw[HG.out,<-heq.out,hgv];exact⟨rfl,rfl⟩
      ·go_wp2
       try rw[Exit.noGoto_ret]
       go_ret3
       have hgv:=Hgv.out;rw[if_neg hc1,if_neg (by omega)] at hgv;have hj:=HJ.out;rw[hc2] at hj hgv;rw[HG.out,<-heq.out,hgv];refine⟨?_,rfl⟩;simp at hj ⊢
       omega
     ·go_wp2
      try rw[Exit.noGoto_ret]
      go_ret3
      have hgv:=Hgv.out;rw[if_neg hc1,if_neg (by omega)] at hgv;rw[HG.out,<-heq.out,hgv,HJ.out,Nat.mod_eq_of_lt (show c.toNat<128 by omega)];refine⟨?_,rfl⟩;simp
      omega
   ·go_wp2
    try rw[Exit.noGoto_ret]
    go_ret3
    have hgv:gv k m (s.data.toList.drop (a+k))=(0,0,5):=by
     rcases h:s.data.toList.drop (a+k) with _|⟨c,l⟩
     ·simp only[gv];rw[if_neg hk9]
     ·simp only[gv];rw[if_pos (by omega)]
    rw[HG.out,<-heq.out,hgv];exact⟨rfl,rfl⟩
  ·have hnil:s.data.toList.drop (a+k)=[]:=List.drop_of_length_le (show s.size<=a+k by omega)
   have Hnil:=Lib.hid hnil;clear hnil;by_cases hk9:k<9
   ·go_wp2
    try rw[Exit.noGoto_ret]
    go_ret3
    have hgv:gv k m []=(0,0,4):=by simp only[gv];rw[if_pos hk9]
    rw[HG.out,<-heq.out,Hnil.out,hgv];exact⟨rfl,rfl⟩
   ·go_wp2
    try rw[Exit.noGoto_ret]
    go_ret3
    have hgv:gv k m []=(0,0,5):=by simp only[gv];rw[if_neg hk9]
    rw[HG.out,<-heq.out,Hnil.out,hgv];exact⟨rfl,rfl⟩
end Vi
end Go.Proofs.YtjligbmickfbdaaGreat
