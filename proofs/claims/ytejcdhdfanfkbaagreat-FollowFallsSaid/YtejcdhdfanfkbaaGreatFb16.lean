/- The law of FollowBack: whatever places, whatever bytes; the probe as a hypothesis. follow.find: a place is looked for by its name. -/
import Derived.Test.YtejcdhdfanfkbaaGreatFb15
import Derived.Test.YtejcdhdfanfkbaaGreatFb11
import Derived.Lib.Bytealg
namespace Go.Proofs.YtejcdhdfanfkbaaGreat
namespace Fo
open Go.RowKit Rd Dk Vi Tk
open Go.Proofs.YtejcdhdfanfkbaaGreat.Rf
theorem pL_len {l:List Pl} (h:chkP l=0):(pL l).length<=10000:=by
 have hk:l.length<=50/\rowP none l=true:=by
  unfold chkP at h;split at h
  ·assumption
  ·cases h
 have a:=flat_pB1 l (rowP_ok hk.2);have b:=length_putV_le l.length 8 (by omega);unfold pL;rw[List.length_append];omega
set_option maxHeartbeats 6400000 in
set_option maxRecDepth 100000 in
theorem fback_x (HAW:Hid (∀w,Calls Tryz.prog 7 #[] w fun e w'=>e=.returned (.bool true)/\Below w.heap.size w w'))
  (A:Option Addr) (n c:Nat) (l:List Pl) (s:ByteArray) (w:World) (hrd:Rd w w.heap.size 2 A n (flS l)) (hc:n<=maxLen) :
  Calls Tryz.prog 4 #[.slice A n c,.string s] w fun e w'=>e=.returned (.bool true)/\Below w.heap.size w w':=by
 have mixed:Tryz.prog.follows .mixedOrders=true:=by kernel_rfl
 have hln:=rdS_len hrd;have HFW:=few_any A n c l w hrd hc;rcases hf:fewP l with _|_
 ·rw[hf] at HFW
  replace HFW:=Lib.hid HFW;clear hrd hc hln hf
  go_enter Tryz.func4, Tryz.ntmps4
  go_wp2_with (first
   |(go_at_call 6;refine HFW.out.mono ?_;rintro e1 w1 ⟨rfl,hb1⟩;have HB1:=Lib.hid hb1;clear hb1)
   |(go_at_call 7;refine(HAW.out _).mono ?_;rintro e2 w2 ⟨rfl,hb2⟩;have HB2:=Lib.hid (HB1.out.trans (hb2.mono HB1.out.size));clear hb2))
  go_ret
  exact⟨rfl,HB2.out⟩
 rw[hf] at HFW;replace HFW:=Lib.hid HFW;by_cases hbig:(3000:Int)<(s.size:Int)
 ·clear hrd hc hln hf
  go_enter Tryz.func4, Tryz.ntmps4
  go_wp2_with (first
   |(go_at_call 6;refine HFW.out.mono ?_;rintro e1 w1 ⟨rfl,hb1⟩;have HB1:=Lib.hid hb1;clear hb1)
   |(go_at_call 7;refine(HAW.out _).mono ?_;rintro e2 w2 ⟨rfl,hb2⟩;have HB2:=Lib.hid (HB1.out.trans (hb2.mono HB1.out.size));clear hb2))
  go_ret
  exact⟨rfl,HB2.out⟩
 have hn60:n<=60:=by
  unfold fewP at hf;rw[Bool.and_eq_true] at hf;have:=of_decide_eq_true hf.1;omega
 have HOW:=Lib.hid (fun(wx:World) (hx:Below w.heap.size w wx)=>own_any A n c l wx ((hrd.below hx).more hx.size) hn60);have HEC:=Lib.hid (fun(A1:Option Addr) (c1:Nat) (l1:List Pl) (wx:World) (hr:Rd wx wx.heap.size 2 A1 l1.length (flS l1)) (h:l1.length<=1000000)=>fenc_any A1 l1.length c1 l1 wx hr h);have HDS:=Lib.hid (fun wx=>fdec_any s (by omega) wx);have HCK:=Lib.hid (fun(A1:Option Addr) (c1:Nat) (l1:List Pl) (wx:World) (hr:Rd wx wx.heap.size 2 A1 l1.length (flS l1)) (h:l1.length<=1000000)=>fcheck_any A1 l1.length c1 l1 wx hr h);have HSM:=Lib.hid (show ∀(A1:Option Addr) (c1:Nat) (wx:World),Rd wx wx.heap.size 2 A1 l.length (flS l)->Below w.heap.size w wx->Calls Tryz.prog 17 #[.slice A1 l.length c1,.slice A n c] wx fun e w'=>e=.returned (.bool true)/\Below wx.heap.size wx w' from fun A1 c1 wx h1 hb=>by
  have:=same_any A1 A l.length n c1 c l l wx h1 ((hrd.below hb).more hb.size) (by omega) (by omega)
  rwa [decide_eq_true rfl] at this)
 have hl60:l.length<=1000000:=by omega
 have HTL:=Lib.hid (show ∀(wx:World),Calls Tryz.prog 11 #[.string s] wx fun e w'=>(∃A1 c1,e=.returned (.tuple #[.slice A1 (deP s.data.toList).2.length c1,.int .i64 (deP s.data.toList).1])/\Rd w' w'.heap.size 2 A1 (deP s.data.toList).2.length (flS (deP s.data.toList).2))/\Below wx.heap.size wx w' from fun wx=>(HDS.out wx).mono (by
  rintro e w' ⟨⟨A1,c1,rfl,ho⟩,hb⟩;exact⟨⟨A1,c1,rfl,Rd.of_own ho⟩,hb⟩))
 have hd:=fun h=>deP_is (l:=s.data.toList) h
 have hd2:=fun h=>deP_none (l:=s.data.toList) h
 obtain⟨r,hr⟩:∃r,deP s.data.toList=r:=⟨_,rfl⟩
 rw[hr] at HTL hd hd2;clear HDS hr;obtain⟨x,m⟩:=r;dsimp only at HTL hd hd2;have HES:∀k:List Pl,chkP k=0->encE k=.returned (.tuple #[.string ⟨(pL k).toArray⟩,.int .i64 0]):=fun k hk=>by unfold encE;rw[hk,if_pos rfl]
 have HD1:=Lib.hid (fun(hk:chkP l=0) (wx:World)=>show Calls Tryz.prog 11 #[.string ⟨(pL l).toArray⟩] wx fun e w'=>(∃A1 c1,e=.returned (.tuple #[.slice A1 l.length c1,.int .i64 0])/\Rd w' w'.heap.size 2 A1 l.length (flS l))/\Below wx.heap.size wx w' from by
  have hz:(⟨(pL l).toArray⟩:ByteArray).size<=1000000:=by
   show(pL l).toArray.size<=_
   rw[List.size_toArray];have:=pL_len hk;omega
  refine(fdec_any ⟨(pL l).toArray⟩ hz wx).mono ?_;rintro e w' ⟨⟨A1,c1,rfl,ho⟩,hb⟩;have e1:deP (⟨(pL l).toArray⟩:ByteArray).data.toList=(0,l):=deP_put l hk;rw[e1] at ho ⊢;exact⟨⟨A1,c1,rfl,Rd.of_own ho⟩,hb⟩)
 have hcc:=chk_cases l;have HSS:(s.toList==s.toList)=true:=by simp
 have tok1:Hid True:=Lib.hid trivial;have tok2:Hid True:=Lib.hid trivial;have HW0:Hid (∃w0:World,w0=w):=Lib.hid ⟨w,rfl⟩;clear hrd hc hln hf
 go_enter Tryz.func4, Tryz.ntmps4
 rcases hcc with hk|hk
 all_goals first
  |(have HE1:=Lib.hid (HES l hk)
    have HDX:=Lib.hid (fun wx=>HD1.out hk wx);clear hk;go_wp2_with (first
     |(go_at_call 6;refine HFW.out.mono ?_;rintro e1 w1 ⟨rfl,hb1⟩;have HB1:=Lib.hid hb1;clear hb1)
     |(go_at_call 9;refine(HOW.out _ HB1.out).mono ?_;rintro e2 w2 ⟨⟨A2,c2,rfl,ho2⟩,hb2⟩;have HR2:=Lib.hid (Rd.of_own ho2);have HB2:=Lib.hid (HB1.out.trans (hb2.mono HB1.out.size));clear ho2 hb2)
     |(go_at_call 8;refine(HEC.out A2 c2 l _ HR2.out hl60).mono ?_;rintro e3 w3 ⟨he3,hb3⟩;obtain rfl:=he3.trans HE1.out;have HB3:=Lib.hid (HB2.out.trans (hb3.mono HB2.out.size));clear hb3)
     |(go_at_call 11;have _t:=tok1;refine(HDX.out _).mono ?_;rintro e4 w4 ⟨⟨A4,c4,rfl,hr4⟩,hb4⟩;have HR4:=Lib.hid hr4;have HB4:=Lib.hid (HB3.out.trans (hb4.mono HB3.out.size));clear hr4 hb4 tok1)
     |(go_at_call 17;refine(HSM.out A4 c4 _ HR4.out HB4.out).mono ?_;rintro e5 wz ⟨rfl,hb5⟩;have HBZ:=Lib.hid (HB4.out.trans (hb5.mono HB4.out.size));clear hb5 HB4 HB3 HB2 HB1 HR2 HR4 HE1 HDX)))
  |(have HE1:=Lib.hid (show encE l=.returned (.tuple #[.string ⟨#[]⟩,.int .i64 180]) from by unfold encE;rw[hk];rfl)
    clear hk;go_wp2_with (first
     |(go_at_call 6;refine HFW.out.mono ?_;rintro e1 w1 ⟨rfl,hb1⟩;have HB1:=Lib.hid hb1;clear hb1)
     |(go_at_call 9;refine(HOW.out _ HB1.out).mono ?_;rintro e2 w2 ⟨⟨A2,c2,rfl,ho2⟩,hb2⟩;have HR2:=Lib.hid (Rd.of_own ho2);have HB2:=Lib.hid (HB1.out.trans (hb2.mono HB1.out.size));clear ho2 hb2)
     |(go_at_call 8;refine(HEC.out A2 c2 l _ HR2.out hl60).mono ?_;rintro e3 wz ⟨he3,hb3⟩;obtain rfl:=he3.trans HE1.out;have HBZ:=Lib.hid (HB2.out.trans (hb3.mono HB2.out.size));clear hb3 HB2 HB1 HR2 HE1)))
 all_goals
  refine(HTL.out _).mono ?_;rintro e8 w8 ⟨⟨A8,c8,rfl,hr8⟩,hb8⟩;have HR8:=Lib.hid hr8;have HB8:=Lib.hid (HBZ.out.trans (hb8.mono HBZ.out.size));clear hr8 hb8 HBZ HTL;by_cases hx:x=0
  ·subst hx
   have hdx:=hd rfl;have hm50:m.length<=1000000:=by
    have:=hdx.2;unfold chkP at this;split at this
    ·omega
    ·cases this
   have HE2:=Lib.hid (show encE m=.returned (.tuple #[.string s,.int .i64 0]) from by
    rw[HES m hdx.2,hdx.1])
   have HCM:=Lib.hid (fun wx h=>by
    have:=HCK.out A8 c8 m wx h hm50
    rwa [hdx.2] at this)
   clear hdx hd hd2 HES HCK;go_wp2_with (first
    |(go_at_call 8;refine(HEC.out A8 c8 m _ HR8.out hm50).mono ?_;rintro e9 w9 ⟨he9,hb9⟩;obtain rfl:=he9.trans HE2.out;have HR9:=Lib.hid ((HR8.out.below hb9).more hb9.size);have HB9:=Lib.hid (HB8.out.trans (hb9.mono HB8.out.size));clear hb9 HE2)
    |(go_at_call 15;refine(HCM.out _ HR9.out).mono ?_;rintro e10 w10 ⟨rfl,hb10⟩;have HB10:=Lib.hid (HB9.out.trans (hb10.mono HB9.out.size));clear hb10)
    |(go_at_call 7;refine(HAW.out _).mono ?_;rintro e11 w11 ⟨rfl,hb11⟩;have HB11:=Lib.hid (HB10.out.trans (hb11.mono HB10.out.size));clear hb11))
   go_ret
   exact⟨rfl,HB11.out⟩
  ·have hx1:(x==0)=false:=by simp[hx]
   have hx2:(x != 0)=true:=by simp[hx]
   obtain rfl:=hd2 hx;clear hd hd2 HES HCK;go_wp2_with (first
    |(go_at_call 7;refine(HAW.out _).mono ?_;rintro e11 w11 ⟨rfl,hb11⟩;have HB11:=Lib.hid (HB8.out.trans (hb11.mono HB8.out.size));clear hb11))
   go_ret
   exact⟨rfl,HB11.out⟩
end Fo
end Go.Proofs.YtejcdhdfanfkbaaGreat
namespace Go.Proofs.YtejcdhdfanfkbaaGreat
namespace Fo
open Go.RowKit Rd Dk Vi
theorem cmp_less:∀a b:List UInt8,(Lib.compareBytes a b<0)↔_root_.Go.Op.bytesLess a b=true
 | [],[]=>by simp[Lib.compareBytes,_root_.Go.Op.bytesLess]
 | [],_::_=>by simp[Lib.compareBytes,_root_.Go.Op.bytesLess]
 |_::_,[]=>by simp[Lib.compareBytes,_root_.Go.Op.bytesLess]
 |a::x,b::y=>by
  have ih:=cmp_less x y;unfold Lib.compareBytes _root_.Go.Op.bytesLess;by_cases h1:a<b
  ·simp[h1]
  ·by_cases h2:b<a
   ·have h3:a≠b:=fun e=>by subst e;exact h1 h2
    simp[h1,h2,h3]
   ·have h3:a=b:=UInt8.le_antisymm (UInt8.not_lt.1 h2) (UInt8.not_lt.1 h1)
    subst h3;simp[h1,ih]
theorem cmp_zero:∀a b:List UInt8,Lib.compareBytes a b=0↔a=b
 | [],[]=>by simp[Lib.compareBytes]
 | [],_::_=>by simp[Lib.compareBytes]
 |_::_,[]=>by simp[Lib.compareBytes]
 |a::x,b::y=>by
  have ih:=cmp_zero x y;unfold Lib.compareBytes;by_cases h1:a<b
  ·have h3:a≠b:=fun e=>by subst e;exact UInt8.lt_irrefl a h1
   simp[h1,h3]
  ·by_cases h2:b<a
   ·have h3:a≠b:=fun e=>by subst e;exact h1 h2
    simp[h1,h2,h3]
   ·have h3:a=b:=UInt8.le_antisymm (UInt8.not_lt.1 h2) (UInt8.not_lt.1 h1)
    subst h3;simp[h1,ih]
theorem less_trans:∀{a b c:List UInt8},_root_.Go.Op.bytesLess a b=true->_root_.Go.Op.bytesLess b c=true->_root_.Go.Op.bytesLess a c=true
 |_,_,[],_,h=>by cases ‹List UInt8› <;>simp[_root_.Go.Op.bytesLess] at h
 |_,[],_::_,h,_=>by cases ‹List UInt8› <;>simp[_root_.Go.Op.bytesLess] at h
 | [],_::_,_::_,_,_=>rfl
 |a::x,b::y,c::z,h1,h2=>by
  unfold _root_.Go.Op.bytesLess at h1 h2 ⊢;simp only[Bool.or_eq_true,Bool.and_eq_true,decide_eq_true_eq,beq_iff_eq] at h1 h2 ⊢;rcases h1 with h1|⟨rfl,h1⟩
  ·rcases h2 with h2|⟨rfl,-⟩
   ·exact .inl (UInt8.lt_trans h1 h2)
   ·exact .inl h1
  ·rcases h2 with h2|⟨rfl,h2⟩
   ·exact .inl h2
   ·exact .inr ⟨rfl,less_trans h1 h2⟩
def Srt (l:List Pl):Prop:=l.Pairwise fun p q=>_root_.Go.Op.bytesLess (bl p) (bl q)=true
theorem rowP_srt:∀{l:List Pl} {a:Option (List UInt8)},rowP a l=true->Srt l/\ ∀x,a=some x-> ∀p∈l,_root_.Go.Op.bytesLess x (bl p)=true
 | [],_,_=>⟨List.Pairwise.nil,fun _ _ p hp=>by cases hp⟩
 |q::l,a,h=>by
  unfold rowP at h;rw[Bool.and_eq_true,Bool.and_eq_true] at h;obtain⟨s1,s2⟩:=rowP_srt h.2.2;refine⟨List.Pairwise.cons (fun p hp=>s2 _ rfl p hp) s1,?_⟩;rintro x rfl p hp;have h1:_root_.Go.Op.bytesLess x (bl q)=true:=h.2.1;rcases List.mem_cons.1 hp with rfl|hp
  ·exact h1
  ·exact less_trans h1 (s2 _ rfl p hp)
theorem chk_srt {l:List Pl} (h:chkP l=0):Srt l/\l.length<=50:=by
 unfold chkP at h;split at h
 ·rename_i hk;exact⟨(rowP_srt hk.2).1,hk.1⟩
 ·cases h
def fi (l:List Pl) (s:List UInt8):Nat:=l.countP fun p=>_root_.Go.Op.bytesLess (bl p) s
def fd (l:List Pl) (s:List UInt8):Bool:=decide ((l[fi l s]?).map bl=some s)
theorem fi_is:∀{l:List Pl} {s:List UInt8} {i:Nat},i<=l.length->(∀j p,j<i->l[j]? =some p->_root_.Go.Op.bytesLess (bl p) s=true)->(∀j p,i<=j->l[j]? =some p->_root_.Go.Op.bytesLess (bl p) s=false)->fi l s=i
 | [],s,i,h,_,_=>by simp at h;subst h;rfl
 |q::l,s,0,_,_,h2=>by
  unfold fi;rw[List.countP_eq_zero];intro p hp;obtain⟨j,hj⟩:=List.getElem?_of_mem hp;rw[h2 j p (Nat.zero_le _) hj];simp
 |q::l,s,i+1,h,h1,h2=>by
  have h0:=h1 0 q (by omega) rfl;have:=fi_is (l:=l) (s:=s) (i:=i) (by simpa using h) (fun j p hj hp=>h1 (j+1) p (by omega) hp) (fun j p hj hp=>h2 (j+1) p (by omega) hp);unfold fi at this ⊢;rw[List.countP_cons_of_pos (p:=fun p=>_root_.Go.Op.bytesLess (bl p) s) h0,this]
set_option maxHeartbeats 1600000 in
set_option maxRecDepth 100000 in
theorem cmp1 (a b:ByteArray) (w:World):Calls Tryz.prog 151 #[.string a,.string b] w fun e w'=>e=.returned (.int .i64 (Lib.compareBytes a.data.toList b.data.toList))/\w'=w:=by
 have mixed:Tryz.prog.follows .mixedOrders=true:=by kernel_rfl
 go_enter Tryz.func151, Tryz.ntmps151
 go_wp2
 rw[run_callFunc_extern Tryz.func203 (by kernel_rfl) (by kernel_rfl) (by kernel_rfl) (e:=Extern.BytealgCompare.compare) (by kernel_rfl),Lib.run_compareString];simp only[Result.andThen];rw[Oper.upon_value];go_wp2
 go_ret
 exact⟨rfl,rfl⟩
set_option maxHeartbeats 1600000 in
set_option maxRecDepth 100000 in
theorem cmp2 (a b:ByteArray) (w:World):Calls Tryz.prog 96 #[.string a,.string b] w fun e w'=>e=.returned (.int .i64 (Lib.compareBytes a.data.toList b.data.toList))/\w'=w:=by
 have mixed:Tryz.prog.follows .mixedOrders=true:=by kernel_rfl
 go_enter Tryz.func96, Tryz.ntmps96
 go_wp2_with (go_at_call 151;refine(cmp1 _ _ _).mono ?_;rintro e w' ⟨rfl,rfl⟩)
 go_ret
 exact⟨rfl,rfl⟩
set_option maxHeartbeats 1600000 in
set_option maxRecDepth 100000 in
theorem find1 (p:Pl) (s:ByteArray) (w:World):Calls Tryz.prog 95 #[.agg #[.string p.s,.int .i64 p.n],.string s] w fun e w'=>e=.returned (.int .i64 (Lib.compareBytes (bl p) s.data.toList))/\Below w.heap.size w w':=by
 have mixed:Tryz.prog.follows .mixedOrders=true:=by kernel_rfl
 go_enter Tryz.func95, Tryz.ntmps95
 go_wp2_with (go_at_call 96;refine(cmp2 _ _ _).mono ?_;rintro e w' ⟨rfl,rfl⟩)
 go_ret
 exact⟨rfl,ext_alloc _ _⟩
set_option maxHeartbeats 3200000 in
set_option maxRecDepth 100000 in
theorem bsearch (A:Option Addr) (n c:Nat) (l:List Pl) (s:ByteArray) (w:World) (hrd:Rd w w.heap.size 2 A n (flS l)) (hn:n<=1000000) (hs:Srt l) :
  Calls Tryz.prog 94 #[.slice A n c,.string s,.func (.func 95) #[] #[]] w fun e w'=>e=.returned (.tuple #[.int .i64 (fi l s.data.toList:Nat),.bool (fd l s.data.toList)])/\Below w.heap.size w w':=by
 have mixed:Tryz.prog.follows .mixedOrders=true:=by kernel_rfl
 have hln:=rdS_len hrd;have HR:=Lib.hid hrd;have HLN:=Lib.hid hln;generalize hF:fi l s.data.toList=F;have HF:=Lib.hid hF;generalize hD:fd l s.data.toList=D;have HD:=Lib.hid (show decide ((l[F]?).map bl=some s.data.toList)=D from by rw[<-hF,<-hD];rfl);have HS:=Lib.hid (show ∀i j p q,i<j->l[i]? =some p->l[j]? =some q->_root_.Go.Op.bytesLess (bl p) (bl q)=true from fun i j p q hij hp hq=>by
  have h1:=(List.getElem?_eq_some_iff.1 hp)
  have h2:=(List.getElem?_eq_some_iff.1 hq)
  obtain⟨a1,rfl⟩:=h1;obtain⟨a2,rfl⟩:=h2;exact List.pairwise_iff_getElem.1 hs i j a1 a2 hij)
 have HCL:=Lib.hid (fun p wx=>find1 p s wx);clear hrd hs hF hD hln
 go_enter Tryz.func94, Tryz.ntmps94
 go_wp2_with fail
 go_loopw [9,10] (fun v9 v10 wr=>∃lo hi:Nat,v9=.int .i64 (lo:Int)/\v10=.int .i64 (hi:Int)/\lo<=hi/\hi<=n/\Hid (Below w.heap.size w wr/\(∀j p,j<lo->l[j]? =some p->_root_.Go.Op.bytesLess (bl p) s.data.toList=true)/\(∀j p,hi<=j->l[j]? =some p->_root_.Go.Op.bytesLess (bl p) s.data.toList=false))) (fun v9 v10 _=>(intOf v10).toNat-(intOf v9).toNat)
 case atStart=>exact⟨0,n,by go_num,rfl,by omega,by omega,Lib.hid ⟨Below.refl _ _,fun j p hj=>absurd hj (by omega),fun j p hj hp=>by rw[List.getElem?_eq_none (by have:=HLN.out;omega)] at hp;cases hp⟩⟩
 case round =>
  obtain⟨lo,hi,rfl,rfl,hlh,hhn,HX⟩:=hrel;by_cases hlt:lo<hi
  ·have hmn:(lo+hi)/2<n:=by omega
   have hm1:lo<=(lo+hi)/2:=by omega
   have hm2:(lo+hi)/2<hi:=by omega
   obtain⟨ad,p,rfl,hbk,hx,e0,ej⟩:=sl_at (HR.out.below HX.out.1) hmn;have c0:wr.cell? (ad.add ((lo+hi)/2*2))=some (.string p.s):=e0;have c1:wr.cell? ⟨(ad.add ((lo+hi)/2*2)).block,(ad.add ((lo+hi)/2*2)).off+1,none⟩=some (.int .i64 p.n):=ej 0 (by decide);clear e0 ej hbk;have i0:(lo:Int)<(hi:Int):=by omega
   have i3:IntKind.i64.wrap (((lo:Int)+(hi:Int))/2+1)=(((lo+hi)/2+1:Nat):Int):=by rw[IntKind.wrap_i64];omega
   have hcp:((lo:Int)+(hi:Int))/2=(((lo+hi)/2:Nat):Int):=by omega
   have HCP:=Lib.hid hcp;have HX3:=Lib.hid i3;clear hcp;have HXX:=Lib.hid hx;clear hx;rcases hbl:_root_.Go.Op.bytesLess (bl p) s.data.toList with _|_
   ·have k1:decide (Lib.compareBytes (bl p) s.data.toList<0)=false:=decide_eq_false fun h=>by rw[cmp_less,hbl] at h;cases h
    have HBL:=Lib.hid hbl;clear hbl;go_wp2_with (go_at_call 95;refine(HCL.out p _).mono ?_;rintro e1 w1 ⟨rfl,hb1⟩;have HB1:=Lib.hid (HX.out.1.trans (hb1.mono HX.out.1.size));clear hb1)
    go_roundw
    ·exact⟨lo,(lo+hi)/2,rfl,by first|rfl|rw[HCP.out],by omega,by omega,Lib.hid ⟨HB1.out,HX.out.2.1,fun j q hj hq=>by
      by_cases e:j=(lo+hi)/2
      ·subst e;rw[HXX.out] at hq;cases hq;exact HBL.out
      ·rcases h:_root_.Go.Op.bytesLess (bl q) s.data.toList with _|_
       ·rfl
       ·have:=less_trans (HS.out _ j p q (by omega) HXX.out hq) h
        rw[HBL.out] at this;cases this⟩⟩
    ·first|(rw[HCP.out];simp[intOf];omega)|(simp[intOf];omega)
   ·have k1:decide (Lib.compareBytes (bl p) s.data.toList<0)=true:=decide_eq_true ((cmp_less _ _).2 hbl)
    have HBL:=Lib.hid hbl;clear hbl;go_wp2_with (go_at_call 95;refine(HCL.out p _).mono ?_;rintro e1 w1 ⟨rfl,hb1⟩;have HB1:=Lib.hid (HX.out.1.trans (hb1.mono HX.out.1.size));clear hb1)
    go_roundw
    ·exact⟨(lo+hi)/2+1,hi,by first|rfl|rw[HX3.out]|(rw[HCP.out];rfl)|(push_cast;rfl),rfl,by omega,by omega,Lib.hid ⟨HB1.out,fun j q hj hq=>by
      by_cases e:j=(lo+hi)/2
      ·subst e;rw[HXX.out] at hq;cases hq;exact HBL.out
      ·exact less_trans (HS.out j _ q p (by omega) hq HXX.out) HBL.out,HX.out.2.2⟩⟩
    ·first|(rw[HX3.out];simp[intOf];omega)|(simp[intOf];omega)
  ·obtain rfl:lo=hi:=by omega
   have hil:((lo:Int)<(lo:Int))=False:=by simp
   have HFE:=Lib.hid (show F=lo from by rw[<-HF.out];exact fi_is (by have:=HLN.out;omega) HX.out.2.1 HX.out.2.2);by_cases hln2:lo<n
   ·obtain⟨ad,p,rfl,hbk,hx,e0,ej⟩:=sl_at (HR.out.below HX.out.1) hln2
    have c0:wr.cell? (ad.add (lo*2))=some (.string p.s):=e0;have c1:wr.cell? ⟨(ad.add (lo*2)).block,(ad.add (lo*2)).off+1,none⟩=some (.int .i64 p.n):=ej 0 (by decide);clear e0 ej hbk;have i1:(0:Int)<=(lo:Int):=by omega
    have i2:(lo:Int)<(n:Int):=by omega
    have HDE:=Lib.hid (show(Lib.compareBytes (bl p) s.data.toList==0)=D from by
     rw[<-HD.out,HFE.out,hx];rcases h:decide (Option.map bl (some p)=some s.data.toList) with _|_
     ·have h1:=of_decide_eq_false h
      rw[beq_eq_false_iff_ne];intro h2;exact h1 (congrArg some ((cmp_zero _ _).1 h2))
     ·have h1:=of_decide_eq_true h
      rw[beq_iff_eq,cmp_zero];exact Option.some.inj h1)
    clear hx;go_wp2_with (go_at_call 95;refine(HCL.out p _).mono ?_;rintro e1 w1 ⟨rfl,hb1⟩;have HB1:=Lib.hid (HX.out.1.trans (hb1.mono HX.out.1.size));clear hb1)
    go_ret2
    refine⟨?_,HB1.out⟩;rw[HDE.out,HFE.out];rfl
   ·have i2: ¬ (lo:Int)<(n:Int):=by omega
    have HDE:=Lib.hid (show D=false from by
     rw[<-HD.out,HFE.out,List.getElem?_eq_none (by have:=HLN.out;omega)];rfl)
    go_wp2_with fail
    go_ret2
    refine⟨?_,HX.out.1⟩;rw[HDE.out,HFE.out];rfl
set_option maxHeartbeats 3200000 in
set_option maxRecDepth 100000 in
theorem find_any (A:Option Addr) (n c:Nat) (l:List Pl) (s:ByteArray) (w:World) (hrd:Rd w w.heap.size 2 A n (flS l)) (hn:n<=1000000) (hs:Srt l) :
  Calls Tryz.prog 43 #[.slice A n c,.string s] w fun e w'=>e=.returned (.tuple #[.int .i64 (fi l s.data.toList:Nat),.bool (fd l s.data.toList)])/\Below w.heap.size w w':=by
 have mixed:Tryz.prog.follows .mixedOrders=true:=by kernel_rfl
 have HB:=Lib.hid (bsearch A n c l s w hrd hn hs);clear hrd hs
 go_enter Tryz.func43, Tryz.ntmps43
 go_wp2_with (go_at_call 94;refine HB.out.mono ?_;rintro e1 w1 ⟨rfl,hb1⟩;have HB1:=Lib.hid hb1;clear hb1)
 go_ret2
 exact⟨rfl,HB1.out⟩
end Fo
end Go.Proofs.YtejcdhdfanfkbaaGreat
