/- varint.Get. record.Check. Slices of records (structs of three cells). head: within, Check. -/
import Derived.Test.YtejcdhdfanfkbaaGreatFb04
import Derived.Test.YtejcdhdfanfkbaaGreatRows
import Derived.Test.YtejcdhdfanfkbaaGreatFb02
namespace Go.Proofs.YtejcdhdfanfkbaaGreat
namespace Vi
open Go.RowKit
def getV (l:List UInt8) (at_:Int):Int×Int×Int :=
 if at_<0∨(l.length:Int)<at_ then(0,0,2)
 else if(gv 0 0 (l.drop at_.toNat)).2.2=0 then(((gv 0 0 (l.drop at_.toNat)).1:Nat),at_+((gv 0 0 (l.drop at_.toNat)).2.1:Nat),0)
 else(0,0,(gv 0 0 (l.drop at_.toNat)).2.2)
theorem and127 (c:Nat) (h:c<256):bits .and .u8 (c:Int) 127=((c%128:Nat):Int):=by
 have:=bits_mask .u8 8 (by decide) wraps_u8 7 (by decide) (c:Int) (by omega) (by omega);simpa using this
theorem wraps_i64 (n:Int) (h₀:0<=n) (h₁:n<2^63):IntKind.i64.wrap n=n:=by
 have e:(2:Int)^63=9223372036854775808:=by decide
 rw[IntKind.wrap_i64];omega
theorem wrap64_nat (n:Nat) (h:n<9223372036854775808):wrap64 (n:Int)=n:=by unfold wrap64;omega
theorem join7 (m c k:Nat) (hm:m<128^k) (hc:c<256) (hk:k<9):bits .or .i64 (m:Int) (wrap64 (wrap64 (bits .and .u8 (c:Int) 127)*2^(7*k)))=((m+c%128*128^k:Nat):Int):=by
 have hp:(2:Int)^(7*k)=((128^k:Nat):Int):=by rw[show(128:Nat)=2^7 by rfl,<-Nat.pow_mul];simp
 have h9:128^(k+1)<=9223372036854775808:=Nat.le_trans (Nat.pow_le_pow_right (by omega) (show k+1<=9 by omega)) (by decide);rw[Nat.pow_succ] at h9;have hq:=Nat.pow_pos (n:=k) (show 0<128 by omega);rw[and127 c hc,wrap64_nat _ (by omega),hp,<-Int.natCast_mul];have hle:c%128*128^k<=127*128^k:=Nat.mul_le_mul_right _ (by omega);rw[wrap64_nat _ (by omega)];have:=(bits_nat .i64 63 (by decide) wraps_i64 m (c%128*128^k) (by omega) (by omega)).2;rw[this];congr 1;rw[Nat.or_comm,show c%128*128^k=2^(7*k)*(c%128) by rw[Nat.mul_comm,Nat.pow_mul],<-Nat.two_pow_add_eq_or_of_lt (by rw[Nat.pow_mul];exact hm)];omega
set_option maxHeartbeats 1600000 in
set_option maxRecDepth 100000 in
theorem get_any (s:ByteArray) (i:Int) (w:World) (hs:s.size<=1000000) :
  Calls Tryz.prog 87 #[.string s,.int .i64 i] w fun e w'=>e=.returned (.tuple #[.int .i64 (getV s.data.toList i).1,.int .i64 (getV s.data.toList i).2.1,.int .i64 (getV s.data.toList i).2.2])/\w=w':=by
 have hl:s.data.toList.length=s.size:=rfl;by_cases h0:i<0
 ·have hg:getV s.data.toList i=(0,0,2):=if_pos (.inl h0)
  rw[hg];clear hg
  go_enter Tryz.func87, Tryz.ntmps87
  go_wp2_with fail
  go_step3
  go_wp2
  try rw[Exit.noGoto_ret]
  go_ret3
  exact⟨rfl,rfl⟩
 by_cases h1:(s.size:Int)<i
 ·have hg:getV s.data.toList i=(0,0,2):=if_pos (.inr (by omega))
  rw[hg];clear hg
  go_enter Tryz.func87, Tryz.ntmps87
  go_wp2_with fail
  go_step3
  go_wp2
  try rw[Exit.noGoto_ret]
  go_ret3
  exact⟨rfl,rfl⟩
 obtain⟨a,rfl⟩:=Int.eq_ofNat_of_zero_le (show 0<=i by omega);have hg:getV s.data.toList (a:Int)=if(gv 0 0 (s.data.toList.drop a)).2.2=0 then((((gv 0 0 (s.data.toList.drop a)).1:Nat):Int),((a:Int)+(((gv 0 0 (s.data.toList.drop a)).2.1:Nat):Int)),(0:Int)) else(0,0,(gv 0 0 (s.data.toList.drop a)).2.2):=by
  unfold getV;rw[if_neg (by omega)];rfl
 have HG:=Lib.hid hg;generalize getV s.data.toList (a:Int)=R at HG ⊢;have b1:decide (s.size<a)=false:=decide_eq_false (by omega);have b2:decide ((a:Int)<0)=false:=decide_eq_false (by omega);clear hg hl h0
 go_enter Tryz.func87, Tryz.ntmps87
 go_wp2_with fail
 go_step3
 go_wp2_with fail
 go_step3
 go_wp2_with fail
 go_loopw [4,5,6,7,8] (fun n _ _ sh i wr=>∃(k m:Nat),n=.int .i64 m/\sh=.int .i64 ((7*k:Nat):Int)/\i=.int .i64 ((a+k:Nat):Int)/\k<=9/\a+k<=s.size/\Hid (m<128^k)/\Hid (gv k m (s.data.toList.drop (a+k))=gv 0 0 (s.data.toList.drop a))/\w=wr) (fun _ _ _ _ i _=>s.size-(intOf i).toNat)
 case atStart=>exact⟨0,0,rfl,rfl,rfl,by omega,by omega,(by show(0:Nat)<_;simp),rfl,rfl⟩
 case round =>
  obtain⟨k,m,rfl,rfl,rfl,hk,hak,hm,heq,rfl⟩:=hrel;by_cases hlt:a+k<s.size
  ·by_cases hk9:k<9
   ·have hgv:gv k m (s.data.toList.drop (a+k))=if 128<=s[a+k].toNat then gv (k+1) (m+(s[a+k].toNat-128)*128^k) (s.data.toList.drop (a+(k+1))) else if s[a+k].toNat=0/\0<k then(0,0,5) else(m+s[a+k].toNat*128^k,k+1,0):=by
     rw[drop_at s.data.toList (a+k) s[a+k] (by rw[List.getElem?_eq_getElem (show a+k<s.data.toList.length from hlt)];rfl)];simp only[gv];rw[if_neg (by omega)];rfl
    have hcb:=s[a+k].toNat_lt;generalize hc:s[a+k]=c at hgv hcb;have hj:=join7 m c.toNat k hm.out hcb hk9;have Hc:=Lib.hid hc;have Hgv:=Lib.hid hgv;have HJ:=Lib.hid hj;clear hgv hj;by_cases hc1:128<=c.toNat
    ·go_wp2
     go_roundw
     case rel =>
      have e:m+c.toNat%128*128^k=m+(c.toNat-128)*128^k:=by congr 2;omega
      refine⟨k+1,m+c.toNat%128*128^k,by rw[HJ.out],by go_num,by go_num,by omega,by omega,?_,?_,trivial⟩
      ·show _<_
       have:=hm.out;rw[Nat.pow_succ];have:c.toNat%128*128^k<=127*128^k:=Nat.mul_le_mul_right _ (by omega);omega
      ·show _=_
       rw[<-heq.out,Hgv.out,if_pos hc1,e]
     case measure=>simp[intOf];omega
    ·by_cases hc2:c.toNat=0
     ·by_cases hk0:0<k
      ·go_wp2
       try rw[Exit.noGoto_ret]
       go_ret3
       have hgv:=Hgv.out;rw[if_neg hc1,if_pos ⟨hc2,hk0⟩] at hgv;rw[HG.out,<-heq.out,hgv];exact⟨rfl,rfl⟩
      ·go_wp2
       try rw[Exit.noGoto_ret]
       go_ret3
       have hgv:=Hgv.out;rw[if_neg hc1,if_neg (by omega)] at hgv;have hj:=HJ.out;rw[hc2] at hj hgv;rw[HG.out,<-heq.out,hgv];refine⟨?_,rfl⟩;simp at hj ⊢
       omega
     ·go_wp2
      try rw[Exit.noGoto_ret]
      go_ret3
      have hgv:=Hgv.out;rw[if_neg hc1,if_neg (by omega)] at hgv;rw[HG.out,<-heq.out,hgv,HJ.out,Nat.mod_eq_of_lt (show c.toNat<128 by omega)];refine⟨?_,rfl⟩;simp
      omega
   ·go_wp2
    try rw[Exit.noGoto_ret]
    go_ret3
    have hgv:gv k m (s.data.toList.drop (a+k))=(0,0,5):=by
     rcases h:s.data.toList.drop (a+k) with _|⟨c,l⟩
     ·simp only[gv];rw[if_neg hk9]
     ·simp only[gv];rw[if_pos (by omega)]
    rw[HG.out,<-heq.out,hgv];exact⟨rfl,rfl⟩
  ·have hnil:s.data.toList.drop (a+k)=[]:=List.drop_of_length_le (show s.size<=a+k by omega)
   have Hnil:=Lib.hid hnil;clear hnil;by_cases hk9:k<9
   ·go_wp2
    try rw[Exit.noGoto_ret]
    go_ret3
    have hgv:gv k m []=(0,0,4):=by simp only[gv];rw[if_pos hk9]
    rw[HG.out,<-heq.out,Hnil.out,hgv];exact⟨rfl,rfl⟩
   ·go_wp2
    try rw[Exit.noGoto_ret]
    go_ret3
    have hgv:gv k m []=(0,0,5):=by simp only[gv];rw[if_neg hk9]
    rw[HG.out,<-heq.out,Hnil.out,hgv];exact⟨rfl,rfl⟩
end Vi
end Go.Proofs.YtejcdhdfanfkbaaGreat
namespace Go.Proofs.YtejcdhdfanfkbaaGreat
namespace Rd
open Go.RowKit Vi
def rv (r:Int×Int×ByteArray):Value:=.agg #[.int .i64 r.1,.int .i64 r.2.1,.string r.2.2]
def cE (r:Int×Int×ByteArray):Int:=if ok1 r=true then 0 else 150
theorem cE_ok {r:Int×Int×ByteArray} (h:ok1 r=true):cE r=0:=if_pos h
theorem cE_no {r:Int×Int×ByteArray} (h: ¬ ok1 r=true):cE r=150:=if_neg h
set_option maxHeartbeats 3200000 in
theorem check_any (q t:Int) (d:ByteArray) (w:World) :
  Calls Tryz.prog 184 #[.agg #[.int .i64 q,.int .i64 t,.string d]] w fun e w'=>e=.returned (.int .i64 (cE (q,t,d)))/\Below w.heap.size w w':=by
 by_cases h:ok1 (q,t,d)=true
 ·rw[cE_ok h]
  rw[ok1_iff] at h;simp only at h;have h1: ¬ q<1:=by omega
  have h2: ¬ 1000000000<q:=by omega
  have h3: ¬ t<0:=by omega
  have h4: ¬ 1000000000<t:=by omega
  have h5: ¬ (2000:Int)<(d.size:Int):=by omega
  clear h
  go_enter Tryz.func184, Tryz.ntmps184
  go_wp2_with fail
  go_ret
  exact⟨rfl,ext_alloc w _⟩
 ·rw[cE_no h]
  rw[ok1_iff] at h;simp only at h;by_cases h1:q<1
  ·go_enter Tryz.func184, Tryz.ntmps184
   go_wp2_with fail
   go_ret
   exact⟨rfl,ext_alloc w _⟩
  by_cases h2:1000000000<q
  ·go_enter Tryz.func184, Tryz.ntmps184
   go_wp2_with fail
   go_ret
   exact⟨rfl,ext_alloc w _⟩
  by_cases h3:t<0
  ·go_enter Tryz.func184, Tryz.ntmps184
   go_wp2_with fail
   go_ret
   exact⟨rfl,ext_alloc w _⟩
  by_cases h4:1000000000<t
  ·go_enter Tryz.func184, Tryz.ntmps184
   go_wp2_with fail
   go_ret
   exact⟨rfl,ext_alloc w _⟩
  have h5:(2000:Int)<(d.size:Int):=by omega
  go_enter Tryz.func184, Tryz.ntmps184
  go_wp2_with fail
  go_ret
  exact⟨rfl,ext_alloc w _⟩
end Rd
end Go.Proofs.YtejcdhdfanfkbaaGreat
namespace Go.Proofs.YtejcdhdfanfkbaaGreat
namespace Rd
open Go.RowKit
def cl3 (r:Int×Int×ByteArray):List Value:=[.int .i64 r.1,.int .i64 r.2.1,.string r.2.2]
def fl3 (l:List (Int×Int×ByteArray)):List Value:=l.flatMap cl3
theorem fl3_cons (r:Int×Int×ByteArray) (l:List (Int×Int×ByteArray)):fl3 (r::l)=.int .i64 r.1:: .int .i64 r.2.1:: .string r.2.2::fl3 l:=rfl
theorem length_fl3 (l:List (Int×Int×ByteArray)):(fl3 l).length=l.length*3:=by
 induction l with
 |nil=>rfl
 |cons x l ih=>rw[fl3_cons,List.length_cons,List.length_cons,List.length_cons,List.length_cons,ih];omega
theorem fl3_append (a b:List (Int×Int×ByteArray)):fl3 (a++b)=fl3 a++fl3 b:=List.flatMap_append ..
theorem fl3_at (l:List (Int×Int×ByteArray)) (k:Nat) (x:Int×Int×ByteArray) (h:l[k]? =some x) :
  (fl3 l)[k*3]? =some (.int .i64 x.1)/\(fl3 l)[k*3+1]? =some (.int .i64 x.2.1)/\(fl3 l)[k*3+2]? =some (.string x.2.2):=by
 induction l generalizing k with
 |nil=>simp at h
 |cons y l ih =>
  rw[fl3_cons];rcases k with _|k
  ·simp at h;subst h;exact⟨rfl,rfl,rfl⟩
  ·have:=ih k (by simpa using h)
   rw[show(k+1)*3=k*3+1+1+1 by omega];simpa using this
theorem rec3 {w:World} {B n k:Nat} {A:Option Addr} {l:List (Int×Int×ByteArray)} (h:Rd w B 3 A n (fl3 l)) (hk:k<n) :
  ∃ad q t d,A=some ad/\ad.block<B/\l[k]? =some (q,t,d)/\w.cell? (ad.add (k*3))=some (.int .i64 q)/\w.cell? ⟨(ad.add (k*3)).block,(ad.add (k*3)).off+1,none⟩=some (.int .i64 t)/\w.cell? ⟨(ad.add (k*3)).block,(ad.add (k*3)).off+2,none⟩=some (.string d):=by
 obtain⟨ad,e,hb,hc⟩:=h.cells (by omega);have hl:l.length=n:=by have:=h.len;rw[length_fl3] at this;omega
 obtain⟨⟨q,t,d⟩,hx⟩:∃x,l[k]? =some x:=⟨l[k]'(by omega),List.getElem?_eq_getElem (by omega)⟩
 obtain⟨h1,h2,h3⟩:=fl3_at l k _ hx;exact⟨ad,q,t,d,e,hb,hx,hc _ _ h1,by have:=hc _ _ h2;rw[<-add_add] at this;exact this,by have:=hc _ _ h3;rw[<-add_add] at this;exact this⟩
theorem rd3_len {w:World} {B n:Nat} {A:Option Addr} {l:List (Int×Int×ByteArray)} (h:Rd w B 3 A n (fl3 l)):l.length=n:=by
 have:=h.len;rw[length_fl3] at this;omega
def pv (l:List (Int×Int×ByteArray)) (k:Nat):Option (Int×Int×ByteArray):=if k=0 then none else l[k-1]?
theorem row_no {l:List (Int×Int×ByteArray)} {k:Nat} {r:Int×Int×ByteArray} (h:l[k]? =some r) (ho: ¬ ok1 r=true):rowE (pv l k) (l.drop k)=150:=by
 rw[drop_at l k r h,rowE,if_pos (by simpa using ho)]
theorem row_off {l:List (Int×Int×ByteArray)} {k:Nat} {r p:Int×Int×ByteArray} (h:l[k+1]? =some r) (hp:l[k]? =some p) (ho:ok1 r=true) (hf:r.1≠p.1+1∨r.2.1<p.2.1):rowE (pv l (k+1)) (l.drop (k+1))=151:=by
 have e:pv l (k+1)=some p:=by unfold pv;rw[if_neg (by omega),Nat.add_sub_cancel,hp]
 rw[drop_at l (k+1) r h,rowE,if_neg (by simp[ho]),e,if_pos (by simp[off];omega)]
theorem row_on {l:List (Int×Int×ByteArray)} {k:Nat} {r p:Int×Int×ByteArray} (h:l[k+1]? =some r) (hp:l[k]? =some p) (ho:ok1 r=true) (hf: ¬ (r.1≠p.1+1∨r.2.1<p.2.1)) :
  rowE (pv l (k+1)) (l.drop (k+1))=rowE (pv l (k+2)) (l.drop (k+2)):=by
 have e:pv l (k+1)=some p:=by unfold pv;rw[if_neg (by omega),Nat.add_sub_cancel,hp]
 have e2:pv l (k+2)=some r:=by unfold pv;rw[if_neg (by omega),show k+2-1=k+1 by omega,h]
 rw[drop_at l (k+1) r h,rowE,if_neg (by simp[ho]),e,if_neg (by simp[off];omega),e2]
theorem row_on0 {l:List (Int×Int×ByteArray)} {r:Int×Int×ByteArray} (h:l[0]? =some r) (ho:ok1 r=true):rowE (pv l 0) (l.drop 0)=rowE (pv l 1) (l.drop 1):=by
 have e2:pv l 1=some r:=by unfold pv;rw[if_neg (by omega)];exact h
 rw[drop_at l 0 r h,rowE,if_neg (by simp[ho]),e2];rfl
theorem row_end {l:List (Int×Int×ByteArray)} {k:Nat} (h:l.length<=k):rowE (pv l k) (l.drop k)=0:=by rw[List.drop_eq_nil_of_le h];rfl
end Rd
end Go.Proofs.YtejcdhdfanfkbaaGreat
namespace Go.Proofs.YtejcdhdfanfkbaaGreat
namespace Hd
open Go.RowKit
def inB (n a b:Int):Bool:=decide (a<=n)&&decide (n<=b)
theorem inB_iff (n a b:Int):inB n a b=true↔a<=n/\n<=b:=by simp[inB]
theorem within_any (n a b:Int) (w:World):Calls Tryz.prog 220 #[.int .i64 n,.int .i64 a,.int .i64 b] w fun e w'=>e=.returned (.bool (inB n a b))/\w=w':=by
 have e1:∀{x y:Bool},decide (a<=n)=x->decide (n<=b)=y->inB n a b=(x&&y):=fun hx hy=>by unfold inB;rw[hx,hy]
 by_cases h1:a<=n
 ·by_cases h2:n<=b
  ·have hd:=e1 (decide_eq_true h1) (decide_eq_true h2)
   generalize inB n a b=r at *
   have HD:=Lib.hid hd;clear hd e1
   go_enter Tryz.func220, Tryz.ntmps220
   go_wp2_with fail
   go_ret
   exact⟨by rw[HD.out];rfl,rfl⟩
  ·have hd:=e1 (decide_eq_true h1) (decide_eq_false h2)
   generalize inB n a b=r at *
   have HD:=Lib.hid hd;clear hd e1
   go_enter Tryz.func220, Tryz.ntmps220
   go_wp2_with fail
   go_ret
   exact⟨by rw[HD.out];rfl,rfl⟩
 ·have hd:inB n a b=false:=by unfold inB;rw[decide_eq_false h1];rfl
  generalize inB n a b=r at *
  have HD:=Lib.hid hd;clear hd e1
  go_enter Tryz.func220, Tryz.ntmps220
  go_wp2_with fail
  go_ret
  exact⟨by rw[HD.out];rfl,rfl⟩
def okH (i g f:Int):Bool:=decide (1<=i/\i<=999999/\1<=g/\g<=999999/\1<=f/\f<=1000000000)
theorem inB_no {n a b:Int} (h: ¬ (a<=n/\n<=b)):inB n a b=false:=by
 cases h2:inB n a b with
 |false=>rfl
 |true=>exact absurd ((inB_iff ..).1 h2) h
set_option maxHeartbeats 1600000 in
set_option maxRecDepth 100000 in
theorem check_yes (i g f:Int) (w:World) (h:1<=i/\i<=999999/\1<=g/\g<=999999/\1<=f/\f<=1000000000) :
  Calls Tryz.prog 169 #[.agg #[.int .i64 i,.int .i64 g,.int .i64 f]] w fun e w'=>e=.returned (.int .i64 0)/\Below w.heap.size w w':=by
 have mixed:Tryz.prog.follows .mixedOrders=true:=by kernel_rfl
 have H1:=Lib.hid (fun(wx:World)=>(within_any i 1 999999 wx).mono (R':=fun e w'=>e=.returned (.bool true)/\wx=w') (fun e w' hh=>⟨by rw[hh.1,(inB_iff ..).2 (by omega)],hh.2⟩));have H2:=Lib.hid (fun(wx:World)=>(within_any g 1 999999 wx).mono (R':=fun e w'=>e=.returned (.bool true)/\wx=w') (fun e w' hh=>⟨by rw[hh.1,(inB_iff ..).2 (by omega)],hh.2⟩));have H3:=Lib.hid (fun(wx:World)=>(within_any f 1 1000000000 wx).mono (R':=fun e w'=>e=.returned (.bool true)/\wx=w') (fun e w' hh=>⟨by rw[hh.1,(inB_iff ..).2 (by omega)],hh.2⟩));clear h;have HB:=Lib.hid (ext_alloc w (.cells #[.int .i64 i,.int .i64 g,.int .i64 f] 148))
 go_enter Tryz.func169, Tryz.ntmps169
 go_wp2_with fail
 refine(H1.out _).mono ?_;rintro e1 w1 ⟨rfl,rfl⟩;go_wp2_with fail
 refine(H2.out _).mono ?_;rintro e2 w2 ⟨rfl,rfl⟩;go_wp2_with fail
 refine(H3.out _).mono ?_;rintro e3 w3 ⟨rfl,rfl⟩;go_wp2_with fail
 go_ret
 exact⟨rfl,HB.out⟩
set_option maxHeartbeats 1600000 in
set_option maxRecDepth 100000 in
theorem check_no1 (i g f:Int) (w:World) (h: ¬ (1<=i/\i<=999999)) :
  Calls Tryz.prog 169 #[.agg #[.int .i64 i,.int .i64 g,.int .i64 f]] w fun e w'=>e=.returned (.int .i64 210)/\Below w.heap.size w w':=by
 have mixed:Tryz.prog.follows .mixedOrders=true:=by kernel_rfl
 have H1:=Lib.hid (fun(wx:World)=>(within_any i 1 999999 wx).mono (R':=fun e w'=>e=.returned (.bool false)/\wx=w') (fun e w' hh=>⟨by rw[hh.1,inB_no (by omega)],hh.2⟩));clear h;have HB:=Lib.hid (ext_alloc w (.cells #[.int .i64 i,.int .i64 g,.int .i64 f] 148))
 go_enter Tryz.func169, Tryz.ntmps169
 go_wp2_with fail
 refine(H1.out _).mono ?_;rintro e1 w1 ⟨rfl,rfl⟩;go_wp2_with fail
 go_ret
 exact⟨rfl,HB.out⟩
set_option maxHeartbeats 1600000 in
set_option maxRecDepth 100000 in
theorem check_no2 (i g f:Int) (w:World) (h1:1<=i/\i<=999999) (h: ¬ (1<=g/\g<=999999)) :
  Calls Tryz.prog 169 #[.agg #[.int .i64 i,.int .i64 g,.int .i64 f]] w fun e w'=>e=.returned (.int .i64 210)/\Below w.heap.size w w':=by
 have mixed:Tryz.prog.follows .mixedOrders=true:=by kernel_rfl
 have H1:=Lib.hid (fun(wx:World)=>(within_any i 1 999999 wx).mono (R':=fun e w'=>e=.returned (.bool true)/\wx=w') (fun e w' hh=>⟨by rw[hh.1,(inB_iff ..).2 (by omega)],hh.2⟩));have H2:=Lib.hid (fun(wx:World)=>(within_any g 1 999999 wx).mono (R':=fun e w'=>e=.returned (.bool false)/\wx=w') (fun e w' hh=>⟨by rw[hh.1,inB_no (by omega)],hh.2⟩));clear h h1;have HB:=Lib.hid (ext_alloc w (.cells #[.int .i64 i,.int .i64 g,.int .i64 f] 148))
 go_enter Tryz.func169, Tryz.ntmps169
 go_wp2_with fail
 refine(H1.out _).mono ?_;rintro e1 w1 ⟨rfl,rfl⟩;go_wp2_with fail
 refine(H2.out _).mono ?_;rintro e2 w2 ⟨rfl,rfl⟩;go_wp2_with fail
 go_ret
 exact⟨rfl,HB.out⟩
set_option maxHeartbeats 1600000 in
set_option maxRecDepth 100000 in
theorem check_no3 (i g f:Int) (w:World) (h1:1<=i/\i<=999999) (h2:1<=g/\g<=999999) (h: ¬ (1<=f/\f<=1000000000)) :
  Calls Tryz.prog 169 #[.agg #[.int .i64 i,.int .i64 g,.int .i64 f]] w fun e w'=>e=.returned (.int .i64 210)/\Below w.heap.size w w':=by
 have mixed:Tryz.prog.follows .mixedOrders=true:=by kernel_rfl
 have H1:=Lib.hid (fun(wx:World)=>(within_any i 1 999999 wx).mono (R':=fun e w'=>e=.returned (.bool true)/\wx=w') (fun e w' hh=>⟨by rw[hh.1,(inB_iff ..).2 (by omega)],hh.2⟩));have H2:=Lib.hid (fun(wx:World)=>(within_any g 1 999999 wx).mono (R':=fun e w'=>e=.returned (.bool true)/\wx=w') (fun e w' hh=>⟨by rw[hh.1,(inB_iff ..).2 (by omega)],hh.2⟩));have H3:=Lib.hid (fun(wx:World)=>(within_any f 1 1000000000 wx).mono (R':=fun e w'=>e=.returned (.bool false)/\wx=w') (fun e w' hh=>⟨by rw[hh.1,inB_no (by omega)],hh.2⟩));clear h h1 h2;have HB:=Lib.hid (ext_alloc w (.cells #[.int .i64 i,.int .i64 g,.int .i64 f] 148))
 go_enter Tryz.func169, Tryz.ntmps169
 go_wp2_with fail
 refine(H1.out _).mono ?_;rintro e1 w1 ⟨rfl,rfl⟩;go_wp2_with fail
 refine(H2.out _).mono ?_;rintro e2 w2 ⟨rfl,rfl⟩;go_wp2_with fail
 refine(H3.out _).mono ?_;rintro e3 w3 ⟨rfl,rfl⟩;go_wp2_with fail
 go_ret
 exact⟨rfl,HB.out⟩
theorem check_any (i g f:Int) (w:World) :
  Calls Tryz.prog 169 #[.agg #[.int .i64 i,.int .i64 g,.int .i64 f]] w fun e w'=>e=.returned (.int .i64 (if okH i g f=true then 0 else 210))/\Below w.heap.size w w':=by
 have hk:okH i g f=true↔1<=i/\i<=999999/\1<=g/\g<=999999/\1<=f/\f<=1000000000:=by simp[okH]
 by_cases h:okH i g f=true
 ·rw[if_pos h]
  exact check_yes i g f w (hk.1 h)
 ·rw[if_neg h]
  rw[hk] at h;by_cases h1:1<=i/\i<=999999
  ·by_cases h2:1<=g/\g<=999999
   ·exact check_no3 i g f w h1 h2 (by omega)
   ·exact check_no2 i g f w h1 h2
  ·exact check_no1 i g f w h1
end Hd
end Go.Proofs.YtejcdhdfanfkbaaGreat
