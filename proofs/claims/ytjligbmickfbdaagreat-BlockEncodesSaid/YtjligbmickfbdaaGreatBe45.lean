/- huff.Decode. -/
import Derived.Test.YtjligbmickfbdaaGreatBe39
import Derived.Test.YtjligbmickfbdaaGreatBe44
namespace Go.Proofs.YtjligbmickfbdaaGreat
namespace Hf
open Go.RowKit Cn
open Bt (Frm RdS)
def combN (acc:List Int) (o:Option (List Int×List Bool)):Option (List Int×List Bool):=match o with|none=>none|some x=>some (acc++x.1,x.2)
theorem combN_nil (o:Option (List Int×List Bool)):combN [] o=o:=by cases o<;>rfl
theorem combN_step (L acc:List Int) (k:Nat) (b r:List Bool) (sy:Int) (h:gw L 0 1 b=some (sy,r)):combN acc (getN L (k+1) b)=combN (acc++[sy]) (getN L k r):=by
 simp only[getN,h];cases getN L k r with
 |none=>rfl
 |some x=>simp[combN]
theorem combN_no (L acc:List Int) (k:Nat) (b:List Bool) (h:gw L 0 1 b=none):combN acc (getN L (k+1) b)=none:=by
 simp only[getN,h];rfl
set_option maxHeartbeats 6400000 in
set_option maxRecDepth 100000 in
theorem decode_any (s:ByteArray) (k:Nat) (w:World) (hs:s.size<=1000000) (hk:k<=20000) :
  Calls Tryz.prog 40 #[.string s,.int .i64 (k:Int)] w fun e w' =>
   ((∃l v,hd (Bt.bits s.data.toList) k=some l/\e=.returned (.tuple #[v,.int .i64 0])/\Own w' w.heap.size v l) ∨
    (hd (Bt.bits s.data.toList) k=none/\ ∃x,e=.returned (.tuple #[.slice none 0 0,.int .i64 x])/\x≠0))/\Below w.heap.size w w':=by
 have mixed:Tryz.prog.follows .mixedOrders=true:=by kernel_rfl
 obtain⟨T,hT⟩:∃T,T=hd (Bt.bits s.data.toList) k:=⟨_,rfl⟩
 have HT:=Lib.hid hT;simp only[<-hT];clear hT
 go_enter Tryz.func40, Tryz.ntmps40
 go_wp2_with fail
 refine(Bt.newReader_any w s).mono ?_;rintro e1 w1 ⟨rfl,hr1,hb1⟩;have HG:=Lib.hid (Tb.tget_any w1 w.heap.size 0 s hr1 hs (by omega));have hblt:=hr1.lt;have HB1:=Lib.hid hb1;have hs1:=hb1.size;obtain⟨br,hbr⟩:∃br,br=w.heap.size:=⟨_,rfl⟩
 rw[<-hbr] at HG hblt ⊢;have hbr0:w.heap.size<=br:=by omega
 clear hr1 hb1 hbr;have hhd:hd (Bt.bits s.data.toList) k=match Tb.tg 257 (-1) 257 (Bt.rem s 0) with
   |none=>none
   |some (l,r)=>if checkE l=0 then(match getN l k r with
    |none=>none
    |some (s,r')=>if Bt.doneB r'=true then some s else none) else none:=rfl
 rw[<-HT.out] at hhd;have HHD:=Lib.hid hhd;clear hhd;go_wp2_with fail
 refine HG.out.mono ?_;rintro e2 w2 ⟨hcase,hf2⟩;have hb2:Below w.heap.size w w2:=HB1.out.trans (hf2.below hbr0 hblt (by simp));have HB2:=Lib.hid hb2;rcases hcase with ⟨L,p2,v2,htg,hck,rfl,hown2,hr2,hp2⟩|⟨hno,x,rfl,hx⟩
 ·have hokL:=ok_check hck
  obtain⟨A2,c2,rfl,_,_,hrd2⟩:=hown2.rd;have HN:=Lib.hid (new_any A2 L.length c2 L w2 hokL.2 hck hokL.1 hrd2);have hhd2:=HHD.out;rw[htg] at hhd2;simp only[if_pos hck] at hhd2;have HH2:=Lib.hid hhd2;have HR2:=Lib.hid hr2;have hlen:=hokL.2;have HOKL:=Lib.hid hokL.1;have hbr2:br<w2.heap.size:=hr2.lt;clear hokL htg hck hown2 hr2 hf2 hrd2 hhd2 HG hb2 HHD;go_wp2_with fail
  refine HN.out.mono ?_;rintro e3 w3 ⟨b,rfl,hcd,hbge,hb3,hcl⟩;have hr3:RdS w3 br s p2:=(hb3.block br hbr2).trans HR2.out;have H0:Aside (RdS w3 br s p2/\Own w3 w3.heap.size (.slice none 0 0) []/\Frm w3 w3 br none/\Below w.heap.size w w3):=⟨hr3,World.ownsRow_nil _ _ _ _,Frm.refl _ _ _,HB2.out.trans (hb3.mono HB2.out.size)⟩
  have HCL:=Lib.hid (And.intro hcl hb3.size);have hs23:=hb3.size;clear hcd hb3 hcl hr3 HN;go_wp2_with fail
  go_loopg [11,41] k (fun kx s11 s41 wr=>∃(j q:Nat) (acc:List Int) (v:Value),v=s11/\s41=.int .i64 (j:Int)/\j<=k/\k-j<=kx/\q<=8*s.size/\Hid (acc.length=j) /\
   Aside (RdS wr br s q/\Own wr w3.heap.size v acc/\Frm w3 wr br none/\Below w.heap.size w wr) /\
   Hid (T=match combN acc (getN L (k-j) (Bt.rem s q)) with|none=>none|some (s,r')=>if Bt.doneB r'=true then some s else none))
  case atStart=>exact⟨0,p2,[],_,rfl,rfl,by omega,by omega,hp2,rfl,H0.out,(by rw[combN_nil,Nat.sub_zero];exact HH2.out)⟩
  case round =>
   clear H0;obtain⟨j,q,acc,v,hv,rfl,hj,hjx,hq,hal,H,hTT⟩:=hrel;subst hv;have hcdr:Cd wr b L:=HCL.out.1 wr H.out.2.2.1.size (fun k h1 h2=>H.out.2.2.1.blk k h2 (by omega) (by simp));by_cases hlt:j<k
   ·have HGT:=Lib.hid (cget_any wr b br q s L hcdr HOKL.out (by omega) H.out.1 hs hq)
    obtain⟨d,hd⟩:∃d,k-j=d+1:=⟨k-j-1,by omega⟩
    have hd2:k-(j+1)=d:=by omega
    have hbrl:=H.out.1.lt;have hvb:v.ownBlock≠some br:=by
     intro e;have:=(World.ownsRow.lt H.out.2.1 br e).1;omega
    have hs3:=H.out.2.2.1.size;clear hcdr;go_wp2_with fail
    refine HGT.out.mono ?_;rintro e5 w5 ⟨hcase,hf5⟩;have hown5:Own w5 w3.heap.size v acc:=Fr.own_frm H.out.2.1 hf5 hvb (by simp);have hb5:Below w.heap.size w w5:=H.out.2.2.2.trans (hf5.below hbr0 hbrl (by simp));have hfr5:Frm w3 w5 br none:=H.out.2.2.1.trans hf5 (.inl rfl);have hTT2:=hTT.out;rw[hd] at hTT2;rcases hcase with ⟨sy,q2,hgw,rfl,hr5,hq2⟩|⟨hgw,x,rfl,hx⟩
    ·rw[combN_step L acc d _ _ sy hgw,<-hd2] at hTT2
     have HT3:=Lib.hid hTT2;have H5:=Lib.hid (And.intro hr5 (And.intro hfr5 hb5));have HO5:=Lib.hid hown5;have hall:acc.length<=1099511627776:=by have:=hal.out;omega
     have HALL:=Lib.hid hall;have hs5:w3.heap.size<=w5.heap.size:=hfr5.size;clear hown5 hb5 hfr5 hTT2 hgw hr5 hf5 hd hall HGT hTT H;go_wp2_with (at_builtin;refine append1 HO5.out HALL.out hs5 ?_;intro A6 n6 c6 w6 hn6 hown6 hb6 hg6 hat6)
     have hr6:RdS w6 br s q2:=(hg6.block br (by omega) (fun e=>hvb e.symm)).trans H5.out.1;have hf6:Frm w3 w6 br none:=⟨hb6.os.trans H5.out.2.1.os,hb6.tape.trans H5.out.2.1.tape,hb6.output.trans H5.out.2.1.output,Nat.le_trans hs5 hb6.size,fun k hk hb hg=>(hb6.block k hk).trans (H5.out.2.1.blk k hk hb hg)⟩
     have hbb6:Below w.heap.size w w6:=H5.out.2.2.trans (hb6.mono (by omega));have hX:=And.intro hr6 (And.intro hown6 (And.intro hf6 hbb6));have HX:Aside _:=hX;have hal2:(acc++[sy]).length=j+1:=by rw[List.length_append,hal.out];rfl
     have HAL2:=Lib.hid hal2;clear hX hr6 hown6 hf6 hbb6 hb6 hg6 hat6 hn6 HO5 hal2;go_wp2_with fail
     go_roundg (k-(j+1))
     case measure=>omega
     case rel=>exact⟨j+1,q2,_,_,rfl,by go_num,by omega,by omega,hq2,HAL2.out,HX.out,HT3.out⟩
    ·rw[combN_no L acc d _ hgw] at hTT2
     have hTn:T=none:=hTT2;have HTN:=Lib.hid hTn;have hb1:(x==0)=false:=by rw[beq_eq_false_iff_ne];exact hx
     have hb2:(x != 0)=true:=by rw[bne_iff_ne];exact hx
     have HX:=Lib.hid hx;have HBB:=Lib.hid hb5;clear hown5 hb5 hfr5 hTT2 hgw hf5 hd hTn hx hTT H HGT;go_wp2_with fail
     go_ret2
     exact⟨.inr ⟨HTN.out,x,rfl,HX.out⟩,HBB.out⟩
   ·obtain rfl:j=k:=by omega
    have hTT2:=hTT.out;rw[Nat.sub_self] at hTT2;have hTT3:T=if Bt.doneB (Bt.rem s q)=true then some acc else none:=by
     rw[hTT2];show(if Bt.doneB (Bt.rem s q)=true then some (acc++[]) else none)=_
     rw[List.append_nil]
    have HD:=Lib.hid (Bt.done_any wr br q s H.out.1 hs hq);have HBB:=Lib.hid H.out.2.2.2;have HOO:=Lib.hid ((H.out.2.1).lower (show w.heap.size<=w3.heap.size by have:=HCL.out.2;have:=HB2.out.size;omega));have HT3:=Lib.hid hTT3;clear hTT2 hTT3 hTT H hcdr;cases hdn:Bt.doneB (Bt.rem s q) with
    |true =>
     rw[hdn] at HD HT3;clear hdn;go_wp2_with fail
     refine HD.out.mono ?_;rintro e6 w6 ⟨rfl,m,rfl⟩;go_wp2_with fail
     go_ret2
     exact⟨.inl ⟨acc,_,(by rw[HT3.out];simp),rfl,HOO.out⟩,below_drewN HBB.out m⟩
    |false =>
     rw[hdn] at HD HT3;clear hdn;go_wp2_with fail
     refine HD.out.mono ?_;rintro e6 w6 ⟨rfl,m,rfl⟩;go_wp2_with fail
     go_ret2
     exact⟨.inr ⟨(by rw[HT3.out];simp),6,rfl,by decide⟩,below_drewN HBB.out m⟩
 ·have hTn:T=none:=by
   rw[HHD.out];cases htg:Tb.tg 257 (-1) 257 (Bt.rem s 0) with
   |none=>rfl
   |some z=>obtain⟨l,r⟩:=z;simp only[if_neg (hno l r htg)]
  have HTN:=Lib.hid hTn;have hb1:(x==0)=false:=by rw[beq_eq_false_iff_ne];exact hx
  have hb2:(x != 0)=true:=by rw[bne_iff_ne];exact hx
  have HX:=Lib.hid hx;clear hTn hx hno hf2 HG;go_wp2_with fail
  go_ret2
  exact⟨.inr ⟨HTN.out,x,rfl,HX.out⟩,HB2.out⟩
end Hf
end Go.Proofs.YtjligbmickfbdaaGreat
