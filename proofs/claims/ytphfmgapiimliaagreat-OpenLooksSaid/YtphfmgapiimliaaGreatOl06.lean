/- varveref02.Put. Slices of structs, whatever these are: read, opened as they come in. Over any program, no conditions of a row. head: within, Check. -/
import Derived.Test.YtphfmgapiimliaaGreatOl04
import Derived.Test.YtphfmgapiimliaaGreatOl01
import Derived.Test.YtphfmgapiimliaaGreatOl02
import Derived.Deep.Slices
import Derived.Deep.Fields
import Derived.ChangeSame
import Derived.Test.YtphfmgapiimliaaGreatRows
namespace Go.Proofs.YtphfmgapiimliaaGreat
namespace Rf
open Go.RowKit Vi
theorem conv1 (w:World) (c:UInt8):(convert 207 9 (.slice (some ⟨w.heap.size,0,none⟩) 1 1)).run Tryz.prog (w.alloc (.cells #[.int .u8 (c.toNat:Int)] 5))=.ok (.string ⟨#[c]⟩) (w.alloc (.cells #[.int .u8 (c.toNat:Int)] 5)):=by
 have h:Rd (w.alloc (.cells #[.int .u8 (c.toNat:Int)] 5)) (w.alloc (.cells #[.int .u8 (c.toNat:Int)] 5)).heap.size 1 (some ⟨w.heap.size,0,none⟩) 1 (bv [c]) :=
  ⟨rfl,fun _=>⟨_,rfl,by simp,fun j u hu=>cell_one_new w _ _ j u hu⟩⟩
 exact run_str (c:=1) h
set_option maxHeartbeats 1600000 in
set_option maxRecDepth 100000 in
theorem refput_any:∀(n N:Nat) (w:World),N<n->N<9223372036854775808->Calls Tryz.prog 144 #[.int .i64 (N:Int)] w fun e w'=>e=.returned (.tuple #[.string (vtxt N),.int .i64 0])/\Below w.heap.size w w'
 |0,N,_,h,_=>absurd h (by omega)
 |n+1,N,w,h,hN=>by
  have h0: ¬ (N:Int)<0:=by omega
  by_cases hs:N<128
  ·have h1:(N:Int)<128:=by omega
   have e:vtxt N=⟨#[UInt8.ofNat N]⟩:=by unfold vtxt;rw[putV_small hs]
   rw[e];have hc:=conv1 w (UInt8.ofNat N);rw[<-low7 N hs] at hc
   go_enter Tryz.func144, Tryz.ntmps144
   go_wp2_with fail
   go_ret2
   exact⟨rfl,ext_alloc w _⟩
  ·have h1: ¬ (N:Int)<128:=by omega
   have IH:=Lib.hid (fun w=>refput_any n (N/128) w (by omega) (by omega));have hcc:∀wv:World,(convert 207 9 (.slice (some ⟨wv.heap.size,0,none⟩) 1 1)).run Tryz.prog (wv.alloc (.cells #[.int .u8 (128+(N:Int)%128)] 5))=.ok (.string ⟨#[UInt8.ofNat (N%128+128)]⟩) (wv.alloc (.cells #[.int .u8 (128+(N:Int)%128)] 5)):=fun wv=>by
    have hh:=conv1 wv (UInt8.ofNat (N%128+128));rw[show((UInt8.ofNat (N%128+128)).toNat:Int)=128+(N:Int)%128 by rw[toNat_ofNat _ (by omega)];omega] at hh;exact hh
   have hcc:=Lib.hid hcc;have hl:(vtxt (N/128)).size<=9:=length_putV_le _ 8 (by omega);have hz:(⟨#[UInt8.ofNat (N%128+128)]⟩:ByteArray).size+(vtxt (N/128)).size<=9223372036854775807:=by
    have:(⟨#[UInt8.ofNat (N%128+128)]⟩:ByteArray).size=1:=rfl;omega
   have he:(⟨#[UInt8.ofNat (N%128)+128]⟩:ByteArray)++vtxt (N/128)=vtxt N:=by
    apply ByteArray.ext;rw[ByteArray.data_append];simp[vtxt,putV_step hs]
   generalize hV:vtxt (N/128)=V at *
   generalize hM:vtxt N=M at *
   clear hV hM
   go_enter Tryz.func144, Tryz.ntmps144
   go_wp2_with (go_at_call 144;refine(IH.out _).mono ?_;rintro e1 w1 ⟨rfl,hb1⟩;have hc:=hcc.out w1)
   go_ret2
   exact⟨rfl,ext_trans hb1 (ext_alloc w1 _)⟩
end Rf
end Go.Proofs.YtphfmgapiimliaaGreat
namespace Go.Proofs.YtphfmgapiimliaaGreat
open Go.RowKit Go.ChangeShapes Go.WideShapes Go.Deep
class Sh (α:Type) (K:outParam Nat) where
 cl:α->List Value
 len:∀x,(cl x).length=K
 pos:0<K
section
variable {α:Type} {K:Nat} [Sh α K]
def flS (l:List α):List Value:=l.flatMap Sh.cl
theorem flS_cons (x:α) (l:List α):flS (x::l)=Sh.cl x++flS l:=rfl
theorem length_flS:∀l:List α,(flS l).length=l.length*K
 | []=>by simp[flS]
 |x::l=>by rw[flS_cons,List.length_append,length_flS l,Sh.len,List.length_cons,Nat.succ_mul];omega
theorem flS_append (a b:List α):flS (a++b)=flS a++flS b:=List.flatMap_append ..
theorem flS_at:∀(l:List α) (k:Nat) (x:α),l[k]? =some x-> ∀j,j<K->(flS l)[k*K+j]? =(Sh.cl x)[j]?
 | [],k,x,h,_,_=>by simp at h
 |y::l,0,x,h,j,hj=>by
  simp only[List.getElem?_cons_zero,Option.some.injEq] at h;subst h;rw[flS_cons,Nat.zero_mul,Nat.zero_add,List.getElem?_append_left (by rw[Sh.len];exact hj)]
 |y::l,k+1,x,h,j,hj=>by
  have:=flS_at l k x (by simpa using h) j hj;rw[flS_cons,List.getElem?_append_right (by rw[Sh.len,Nat.succ_mul];omega),<-this,Sh.len,Nat.succ_mul];congr 1;omega
theorem flS_inv {l:List α} {j:Nat} {u:Value} (h:(flS l)[j]? =some u):∃(k s:Nat) (x:α),j=k*K+s/\s<K/\l[k]? =some x/\(Sh.cl x)[s]? =some u:=by
 have hj:j<l.length*K:=by rw[<-length_flS];exact(List.getElem?_eq_some_iff.1 h).1
 have hK:0<K:=Sh.pos α;have hk:j/K<l.length:=by rw[Nat.div_lt_iff_lt_mul hK];exact hj
 obtain⟨x,hx⟩:∃x,l[j/K]? =some x:=⟨_,List.getElem?_eq_getElem hk⟩
 have hs:j%K<K:=Nat.mod_lt _ hK;have e:j=j/K*K+j%K:=by rw[Nat.mul_comm];exact(Nat.div_add_mod j K).symm
 refine⟨j/K,j%K,x,e,hs,hx,?_⟩;rw[<-flS_at l _ x hx _ hs,<-e];exact h
theorem rdS_len {w:World} {B n:Nat} {A:Option Addr} {l:List α} (h:Rd w B K A n (flS l)):l.length=n:=by
 have:=h.len;rw[length_flS] at this;exact Nat.eq_of_mul_eq_mul_right (Sh.pos α) this
theorem sl_at {w:World} {B n k:Nat} {A:Option Addr} {l:List α} (h:Rd w B K A n (flS l)) (hk:k<n) :
  ∃ad x,A=some ad/\ad.block<B/\l[k]? =some x/\w.cell? (ad.add (k*K))=(Sh.cl x)[0]? /\ ∀j,j+1<K->w.cell? ⟨(ad.add (k*K)).block,(ad.add (k*K)).off+(j+1),none⟩=(Sh.cl x)[j+1]? :=by
 obtain⟨ad,e,hb,hc⟩:=h.cells (by omega);have hl:=rdS_len h;obtain⟨x,hx⟩:∃x,l[k]? =some x:=⟨l[k]'(by omega),List.getElem?_eq_getElem (by omega)⟩
 have key:∀j,j<K->w.cell? ((ad.add (k*K)).add j)=(Sh.cl x)[j]? :=by
  intro j hj;obtain⟨u,hu⟩:∃u,(Sh.cl x)[j]? =some u:=⟨_,List.getElem?_eq_getElem (by rw[Sh.len];exact hj)⟩
  rw[hu,add_add];exact hc _ u ((flS_at l k x hx j hj).trans hu)
 refine⟨ad,x,e,hb,hx,?_,fun j hj=>?_⟩
 ·have:=key 0 (Sh.pos α)
  rwa [show(ad.add (k*K)).add 0=ad.add (k*K) from by unfold Addr.add;simp] at this
 ·exact key (j+1) hj
theorem flS_one (h1:∀x:α,∀u∈Sh.cl x,u.oneCell'=true) (l:List α):∀u∈flS l,u.oneCell'=true:=by
 intro u hu;unfold flS at hu;rw[List.mem_flatMap] at hu;obtain⟨m,-,hm⟩:=hu;exact h1 m u hm
theorem flS_take (l:List α) (k:Nat):(flS l).take (k*K)=flS (l.take k):=by
 rcases Nat.lt_or_ge k l.length with h|h
 ·have e:flS l=flS (l.take k)++flS (l.drop k):=by rw[<-flS_append,List.take_append_drop]
  rw[e,List.take_append_of_le_length (by rw[length_flS,List.length_take,Nat.min_eq_left (by omega)];exact Nat.le_refl _),List.take_of_length_le (by rw[length_flS,List.length_take,Nat.min_eq_left (by omega)];exact Nat.le_refl _)]
 ·rw[List.take_of_length_le (by rw[length_flS];exact Nat.mul_le_mul_right _ h),List.take_of_length_le h]
theorem flS_drop (l:List α) (k:Nat):(flS l).drop (k*K)=flS (l.drop k):=by
 rcases Nat.lt_or_ge k l.length with h|h
 ·have e:flS l=flS (l.take k)++flS (l.drop k):=by rw[<-flS_append,List.take_append_drop]
  rw[e,List.drop_append_of_le_length (by rw[length_flS,List.length_take,Nat.min_eq_left (by omega)];exact Nat.le_refl _),List.drop_eq_nil_of_le (by rw[length_flS,List.length_take,Nat.min_eq_left (by omega)];exact Nat.le_refl _),List.nil_append]
 ·rw[List.drop_eq_nil_of_le (by rw[length_flS];exact Nat.mul_le_mul_right _ h),List.drop_eq_nil_of_le h];rfl
theorem open_sl [Inhabited α] {H:Type} {enc:TypeId×Value->H} {P:Program} {w:World} {t e:TypeId} {v:Value} {fuel:Nat} {y:DataW H×List MemPlace}
  (ht:P.underlying t=some (.slice e)) (hc:P.cellsOf e=K) (hdec:∀cs' fuel y,DataW.trod enc P w 0 (fun _=>true) true fuel e cs'=some y-> ∃x:α,cs'=Sh.cl x)
  (hf:DataW.trod enc P w 0 (fun _=>true) true fuel t [v]=some y) :
  ∃(A:Option Addr) (n c:Nat) (l:List α),v=.slice A n c/\Rd w w.heap.size K A n (flS l)/\n<=c/\c<=maxLen/\l.length=n/\(A=none->c=0):=by
 rcases Go.Deep.open_slice ht hf with ⟨hcs,-⟩|⟨a,len,cap,m,n,D,Pl,hcs,-,hl,hm,hmm,-,hx⟩
 ·simp at hcs
  subst hcs;exact⟨none,0,0,[],rfl,Rd.nil,Nat.le_refl _,by simp[maxLen],rfl,fun _=>rfl⟩
 ·simp at hcs
  subst hcs;rw[hc] at hx;have hlm:len<=m:=by rw[hmm,if_pos rfl];exact hl
  have hex:∀i,i<len-> ∃x:α,∀s u,(Sh.cl x)[s]? =some u->w.cell? (a.add (i*K+s))=some u:=by
   intro i hi;obtain⟨cs',hcl,htr⟩:=hx i (by omega);obtain⟨-,hlen,hat⟩:=World.cells?_some hcl;obtain⟨x,rfl⟩:=hdec _ _ _ htr;refine⟨x,fun s u hu=>?_⟩;rw[<-add_add,hat s (by rw[<-Sh.len x];exact(List.getElem?_eq_some_iff.1 hu).1)];exact hu
  obtain⟨R,hR⟩:=Go.Deep.choose_lt hex;refine⟨some a,len,cap,(List.range len).map R,rfl,⟨by rw[length_flS];simp,fun hn=>⟨a,rfl,?_,?_⟩⟩,hl,hm,by simp,by simp⟩
  ·obtain⟨u,hu⟩:∃u,(Sh.cl (R 0))[0]? =some u:=⟨_,List.getElem?_eq_getElem (by rw[Sh.len];exact Sh.pos α)⟩
   have h0:=World.block_lt_of_cell? w _ (hR 0 hn 0 _ hu)
   rwa [add_block] at h0
  ·intro j u hu
   obtain⟨k,s,x,rfl,hs,hk,hc⟩:=flS_inv hu;rw[List.getElem?_map] at hk;rcases Nat.lt_or_ge k len with hkl|hkl
   ·rw[List.getElem?_eq_getElem (by simpa using hkl)] at hk
    simp at hk
    subst hk;exact hR k hkl s u hc
   ·rw[List.getElem?_eq_none (by simpa using hkl)] at hk
    cases hk
end
end Go.Proofs.YtphfmgapiimliaaGreat
namespace Go.Proofs.YtphfmgapiimliaaGreat
namespace Hd
open Go.RowKit
def inB (n a b:Int):Bool:=decide (a<=n)&&decide (n<=b)
theorem inB_iff (n a b:Int):inB n a b=true↔a<=n/\n<=b:=by simp[inB]
theorem within_any (n a b:Int) (w:World):Calls Tryz.prog 171 #[.int .i64 n,.int .i64 a,.int .i64 b] w fun e w'=>e=.returned (.bool (inB n a b))/\w=w':=by
 have e1:∀{x y:Bool},decide (a<=n)=x->decide (n<=b)=y->inB n a b=(x&&y):=fun hx hy=>by unfold inB;rw[hx,hy]
 by_cases h1:a<=n
 ·by_cases h2:n<=b
  ·have hd:=e1 (decide_eq_true h1) (decide_eq_true h2)
   generalize inB n a b=r at *
   have HD:=Lib.hid hd;clear hd e1
   go_enter Tryz.func171, Tryz.ntmps171
   go_wp2_with fail
   go_ret
   exact⟨by rw[HD.out];rfl,rfl⟩
  ·have hd:=e1 (decide_eq_true h1) (decide_eq_false h2)
   generalize inB n a b=r at *
   have HD:=Lib.hid hd;clear hd e1
   go_enter Tryz.func171, Tryz.ntmps171
   go_wp2_with fail
   go_ret
   exact⟨by rw[HD.out];rfl,rfl⟩
 ·have hd:inB n a b=false:=by unfold inB;rw[decide_eq_false h1];rfl
  generalize inB n a b=r at *
  have HD:=Lib.hid hd;clear hd e1
  go_enter Tryz.func171, Tryz.ntmps171
  go_wp2_with fail
  go_ret
  exact⟨by rw[HD.out];rfl,rfl⟩
def okH (i g f:Int):Bool:=decide (1<=i/\i<=999999/\1<=g/\g<=999999/\1<=f/\f<=1000000000)
theorem inB_no {n a b:Int} (h: ¬ (a<=n/\n<=b)):inB n a b=false:=by
 cases h2:inB n a b with
 |false=>rfl
 |true=>exact absurd ((inB_iff ..).1 h2) h
set_option maxHeartbeats 1600000 in
set_option maxRecDepth 100000 in
theorem check_yes (i g f:Int) (w:World) (h:1<=i/\i<=999999/\1<=g/\g<=999999/\1<=f/\f<=1000000000) :
  Calls Tryz.prog 126 #[.agg #[.int .i64 i,.int .i64 g,.int .i64 f]] w fun e w'=>e=.returned (.int .i64 0)/\Below w.heap.size w w':=by
 have mixed:Tryz.prog.follows .mixedOrders=true:=by kernel_rfl
 have H1:=Lib.hid (fun(wx:World)=>(within_any i 1 999999 wx).mono (R':=fun e w'=>e=.returned (.bool true)/\wx=w') (fun e w' hh=>⟨by rw[hh.1,(inB_iff ..).2 (by omega)],hh.2⟩));have H2:=Lib.hid (fun(wx:World)=>(within_any g 1 999999 wx).mono (R':=fun e w'=>e=.returned (.bool true)/\wx=w') (fun e w' hh=>⟨by rw[hh.1,(inB_iff ..).2 (by omega)],hh.2⟩));have H3:=Lib.hid (fun(wx:World)=>(within_any f 1 1000000000 wx).mono (R':=fun e w'=>e=.returned (.bool true)/\wx=w') (fun e w' hh=>⟨by rw[hh.1,(inB_iff ..).2 (by omega)],hh.2⟩));clear h;have HB:=Lib.hid (ext_alloc w (.cells #[.int .i64 i,.int .i64 g,.int .i64 f] 35))
 go_enter Tryz.func126, Tryz.ntmps126
 go_wp2_with fail
 refine(H1.out _).mono ?_;rintro e1 w1 ⟨rfl,rfl⟩;go_wp2_with fail
 refine(H2.out _).mono ?_;rintro e2 w2 ⟨rfl,rfl⟩;go_wp2_with fail
 refine(H3.out _).mono ?_;rintro e3 w3 ⟨rfl,rfl⟩;go_wp2_with fail
 go_ret
 exact⟨rfl,HB.out⟩
set_option maxHeartbeats 1600000 in
set_option maxRecDepth 100000 in
theorem check_no1 (i g f:Int) (w:World) (h: ¬ (1<=i/\i<=999999)) :
  Calls Tryz.prog 126 #[.agg #[.int .i64 i,.int .i64 g,.int .i64 f]] w fun e w'=>e=.returned (.int .i64 210)/\Below w.heap.size w w':=by
 have mixed:Tryz.prog.follows .mixedOrders=true:=by kernel_rfl
 have H1:=Lib.hid (fun(wx:World)=>(within_any i 1 999999 wx).mono (R':=fun e w'=>e=.returned (.bool false)/\wx=w') (fun e w' hh=>⟨by rw[hh.1,inB_no (by omega)],hh.2⟩));clear h;have HB:=Lib.hid (ext_alloc w (.cells #[.int .i64 i,.int .i64 g,.int .i64 f] 35))
 go_enter Tryz.func126, Tryz.ntmps126
 go_wp2_with fail
 refine(H1.out _).mono ?_;rintro e1 w1 ⟨rfl,rfl⟩;go_wp2_with fail
 go_ret
 exact⟨rfl,HB.out⟩
set_option maxHeartbeats 1600000 in
set_option maxRecDepth 100000 in
theorem check_no2 (i g f:Int) (w:World) (h1:1<=i/\i<=999999) (h: ¬ (1<=g/\g<=999999)) :
  Calls Tryz.prog 126 #[.agg #[.int .i64 i,.int .i64 g,.int .i64 f]] w fun e w'=>e=.returned (.int .i64 210)/\Below w.heap.size w w':=by
 have mixed:Tryz.prog.follows .mixedOrders=true:=by kernel_rfl
 have H1:=Lib.hid (fun(wx:World)=>(within_any i 1 999999 wx).mono (R':=fun e w'=>e=.returned (.bool true)/\wx=w') (fun e w' hh=>⟨by rw[hh.1,(inB_iff ..).2 (by omega)],hh.2⟩));have H2:=Lib.hid (fun(wx:World)=>(within_any g 1 999999 wx).mono (R':=fun e w'=>e=.returned (.bool false)/\wx=w') (fun e w' hh=>⟨by rw[hh.1,inB_no (by omega)],hh.2⟩));clear h h1;have HB:=Lib.hid (ext_alloc w (.cells #[.int .i64 i,.int .i64 g,.int .i64 f] 35))
 go_enter Tryz.func126, Tryz.ntmps126
 go_wp2_with fail
 refine(H1.out _).mono ?_;rintro e1 w1 ⟨rfl,rfl⟩;go_wp2_with fail
 refine(H2.out _).mono ?_;rintro e2 w2 ⟨rfl,rfl⟩;go_wp2_with fail
 go_ret
 exact⟨rfl,HB.out⟩
set_option maxHeartbeats 1600000 in
set_option maxRecDepth 100000 in
theorem check_no3 (i g f:Int) (w:World) (h1:1<=i/\i<=999999) (h2:1<=g/\g<=999999) (h: ¬ (1<=f/\f<=1000000000)) :
  Calls Tryz.prog 126 #[.agg #[.int .i64 i,.int .i64 g,.int .i64 f]] w fun e w'=>e=.returned (.int .i64 210)/\Below w.heap.size w w':=by
 have mixed:Tryz.prog.follows .mixedOrders=true:=by kernel_rfl
 have H1:=Lib.hid (fun(wx:World)=>(within_any i 1 999999 wx).mono (R':=fun e w'=>e=.returned (.bool true)/\wx=w') (fun e w' hh=>⟨by rw[hh.1,(inB_iff ..).2 (by omega)],hh.2⟩));have H2:=Lib.hid (fun(wx:World)=>(within_any g 1 999999 wx).mono (R':=fun e w'=>e=.returned (.bool true)/\wx=w') (fun e w' hh=>⟨by rw[hh.1,(inB_iff ..).2 (by omega)],hh.2⟩));have H3:=Lib.hid (fun(wx:World)=>(within_any f 1 1000000000 wx).mono (R':=fun e w'=>e=.returned (.bool false)/\wx=w') (fun e w' hh=>⟨by rw[hh.1,inB_no (by omega)],hh.2⟩));clear h h1 h2;have HB:=Lib.hid (ext_alloc w (.cells #[.int .i64 i,.int .i64 g,.int .i64 f] 35))
 go_enter Tryz.func126, Tryz.ntmps126
 go_wp2_with fail
 refine(H1.out _).mono ?_;rintro e1 w1 ⟨rfl,rfl⟩;go_wp2_with fail
 refine(H2.out _).mono ?_;rintro e2 w2 ⟨rfl,rfl⟩;go_wp2_with fail
 refine(H3.out _).mono ?_;rintro e3 w3 ⟨rfl,rfl⟩;go_wp2_with fail
 go_ret
 exact⟨rfl,HB.out⟩
theorem check_any (i g f:Int) (w:World) :
  Calls Tryz.prog 126 #[.agg #[.int .i64 i,.int .i64 g,.int .i64 f]] w fun e w'=>e=.returned (.int .i64 (if okH i g f=true then 0 else 210))/\Below w.heap.size w w':=by
 have hk:okH i g f=true↔1<=i/\i<=999999/\1<=g/\g<=999999/\1<=f/\f<=1000000000:=by simp[okH]
 by_cases h:okH i g f=true
 ·rw[if_pos h]
  exact check_yes i g f w (hk.1 h)
 ·rw[if_neg h]
  rw[hk] at h;by_cases h1:1<=i/\i<=999999
  ·by_cases h2:1<=g/\g<=999999
   ·exact check_no3 i g f w h1 h2 (by omega)
   ·exact check_no2 i g f w h1 h2
  ·exact check_no1 i g f w h1
end Hd
end Go.Proofs.YtphfmgapiimliaaGreat
