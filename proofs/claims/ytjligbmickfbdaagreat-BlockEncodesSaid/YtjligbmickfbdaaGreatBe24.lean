/- Numbers as bytes: what varint's functions compute: plain lists of bytes, no program. squash: a text comes back of its bytes; bytes that are cut, or have more behind them, are none's: plain lists, no program. squash.Symbols, Text. -/
import Derived.Test.YtjligbmickfbdaaGreatBe01
import Derived.Test.YtjligbmickfbdaaGreatBe23
import Derived.Test.YtjligbmickfbdaaGreatBe07
import Derived.Test.YtjligbmickfbdaaGreatBe13
import Derived.Test.YtjligbmickfbdaaGreatBe17
import Derived.Test.YtjligbmickfbdaaGreatBe20
import Derived.Test.YtjligbmickfbdaaGreatBe18
namespace Go.Proofs.YtjligbmickfbdaaGreat
namespace Vi
def putV (n:Nat):List UInt8:=if _h:n<128 then[UInt8.ofNat n] else UInt8.ofNat (n%128+128)::putV (n/128)
termination_by n
decreasing_by omega
theorem putV_small {n:Nat} (h:n<128):putV n=[UInt8.ofNat n]:=by rw[putV,dif_pos h]
theorem putV_step {n:Nat} (h: ¬ n<128):putV n=UInt8.ofNat (n%128+128)::putV (n/128):=by rw[putV,dif_neg h]
def gv (k n:Nat):List UInt8->Nat×Nat×Int
 | []=>(0,0,if k<9 then 4 else 5)
 |c::l =>
  if 9<=k then(0,0,5)
  else if 128<=c.toNat then gv (k+1) (n+(c.toNat-128)*128^k) l
  else if c.toNat=0/\0<k then(0,0,5)
  else(n+c.toNat*128^k,k+1,0)
theorem toNat_ofNat (n:Nat) (h:n<256):(UInt8.ofNat n).toNat=n:=by
 simp only[UInt8.toNat_ofNat'];omega
theorem length_putV_pos (n:Nat):0<(putV n).length:=by
 by_cases h:n<128
 ·rw[putV_small h];simp
 ·rw[putV_step h];simp
theorem gv_putV:∀(n k m:Nat) (rest:List UInt8),k<9->n<128^(9-k)->(0<k->0<n) ->
  gv k m (putV n++rest)=(m+n*128^k,k+(putV n).length,0):=by
 intro n
 induction n using Nat.strongRecOn with
 |ind n ih =>
  intro k m rest hk hn h0;by_cases h:n<128
  ·rw[putV_small h]
   simp only[List.singleton_append,gv,List.length_singleton];rw[if_neg (by omega),toNat_ofNat n (by omega),if_neg (by omega),if_neg (by omega)]
  ·rw[putV_step h]
   simp only[List.cons_append,gv,List.length_cons];rw[if_neg (by omega),toNat_ofNat _ (by omega),if_pos (by omega)];have hk8:k+1<9:=by
    rcases Nat.lt_or_ge k 8 with h8|h8
    ·omega
    ·exfalso
     have:k=8:=by omega
     subst this;simp at hn;omega
   have hp:128^(9-k)=128*128^(9-(k+1)):=by
    rw[show 9-k=(9-(k+1))+1 from by omega,Nat.pow_succ];omega
   have hd:n/128<128^(9-(k+1)):=by
    rw[hp] at hn;exact Nat.div_lt_of_lt_mul hn
   rw[ih (n/128) (by omega) (k+1) _ rest hk8 hd (fun _=>by omega)];have e:m+(n%128+128-128)*128^k+n/128*128^(k+1)=m+n*128^k:=by
    rw[Nat.pow_succ,Nat.add_assoc,show n/128*(128^k*128)=(n/128*128)*128^k from by rw[Nat.mul_assoc,Nat.mul_comm (128^k)],<-Nat.add_mul];congr 2;omega
   rw[e];congr 2;omega
theorem gv_some:∀(l:List UInt8) (k m v u:Nat),gv k m l=(v,u,0)-> ∃n rest,l=putV n++rest/\v=m+n*128^k/\u=k+(putV n).length/\n<128^(9-k)/\k<9/\(0<k->0<n)
 | [],k,m,v,u,h=>by
   simp only[gv] at h;split at h<;>simp at h
 |c::l,k,m,v,u,h=>by
  simp only[gv] at h;split at h
  ·simp at h
  rename_i hk
  split at h
  ·rename_i hc
   obtain⟨n,rest,rfl,hv,hu,hn,hk9,hpos⟩:=gv_some l (k+1) _ v u h;have hn0:=hpos (by omega);have hcb:=c.toNat_lt;refine⟨n*128+(c.toNat-128),rest,?_,?_,?_,?_,by omega,fun _=>by omega⟩
   ·rw[putV_step (n:=n*128+(c.toNat-128)) (by omega)]
    have e1:(n*128+(c.toNat-128))/128=n:=by omega
    have e2:(n*128+(c.toNat-128))%128+128=c.toNat:=by omega
    rw[e1,e2];simp
   ·have e:128^(k+1)=128^k*128:=by exact Nat.pow_succ ..
    rw[hv,e];generalize 128^k=q;generalize c.toNat-128=y;rw[Nat.add_mul,Nat.mul_assoc n 128 q,Nat.mul_comm 128 q];omega
   ·rw[hu,putV_step (n:=n*128+(c.toNat-128)) (by omega)]
    have e1:(n*128+(c.toNat-128))/128=n:=by omega
    rw[e1,List.length_cons];omega
   ·rw[show 9-k=(9-(k+1))+1 from by omega,Nat.pow_succ]
    omega
  ·split at h
   ·simp at h
   ·rename_i hc h0
    simp only[Prod.mk.injEq,and_true] at h;refine⟨c.toNat,l,?_,h.1.symm,?_,?_,by omega,fun hk=>by omega⟩
    ·rw[putV_small (by omega)];simp
    ·rw[putV_small (by omega)];simp;omega
    ·have:128^1<=128^(9-k):=Nat.pow_le_pow_right (by omega) (by omega)
     omega
theorem gv_err (l:List UInt8):∀(k m:Nat),(gv k m l).2.2=0∨(gv k m l).1=0/\(gv k m l).2.1=0:=by
 induction l with
 |nil=>intro k m;right;simp[gv]
 |cons c l ih =>
  intro k m;simp only[gv];split
  ·right;simp
  split
  ·exact ih _ _
  split
  ·right;simp
  ·left;rfl
theorem length_putV_le:∀(n k:Nat),n<128^(k+1)->(putV n).length<=k+1:=by
 intro n
 induction n using Nat.strongRecOn with
 |ind n ih =>
  intro k hn;by_cases h:n<128
  ·rw[putV_small h];simp
  ·rw[putV_step h,List.length_cons]
   rcases k with _|k
   ·simp at hn;omega
   ·have:=ih (n/128) (by omega) k (Nat.div_lt_of_lt_mul (by rw[Nat.pow_succ] at hn;omega))
    omega
end Vi
end Go.Proofs.YtjligbmickfbdaaGreat
namespace Go.Proofs.YtjligbmickfbdaaGreat
namespace Sq
open Vi Zr Hf
def sy (s:List UInt8) (A:List Nat):List Int:=pk 0 (Fr.rks Fr.row0 (Bw.lst s A))
def packed (s:List UInt8) (A:List Nat):List UInt8:=putV s.length++(putV (Bw.pri A)++(putV (sy s A).length++hbyt (sy s A)))
def may (n:Nat) (pr:Nat):Bool:=if n=0 then decide (pr=0) else decide (1<=pr)&&decide (pr<=n)
def txtS (l:List Int) (pr n:Nat):Option (List UInt8) :=
 if 20000<n then none
 else if unpackE l n≠0 then none
 else if(unp [] l).length≠n then none
 else if may n pr=true then Bw.inv (Fr.txt Fr.row0 (unp [] l)) pr (fun row=>Bw.stp (Fr.txt Fr.row0 (unp [] l)) pr row) n 0 [] else none
def bodyS (n pr k:Nat) (b:List UInt8):Option (List UInt8) :=
 if 20000<n∨n<k then none else match hd (Bt.bits b) k with
 |none=>none
 |some l=>txtS l pr n
def head (b:List UInt8):Int×Nat×Nat×Nat×List UInt8 :=
 if(gv 0 0 b).2.2≠0 then((gv 0 0 b).2.2,0,0,0,[])
 else if(gv 0 0 (b.drop (gv 0 0 b).2.1)).2.2≠0 then((gv 0 0 (b.drop (gv 0 0 b).2.1)).2.2,0,0,0,[])
 else if(gv 0 0 ((b.drop (gv 0 0 b).2.1).drop (gv 0 0 (b.drop (gv 0 0 b).2.1)).2.1)).2.2≠0 then((gv 0 0 ((b.drop (gv 0 0 b).2.1).drop (gv 0 0 (b.drop (gv 0 0 b).2.1)).2.1)).2.2,0,0,0,[])
 else(0,(gv 0 0 b).1,(gv 0 0 (b.drop (gv 0 0 b).2.1)).1,(gv 0 0 ((b.drop (gv 0 0 b).2.1).drop (gv 0 0 (b.drop (gv 0 0 b).2.1)).2.1)).1,
  ((b.drop (gv 0 0 b).2.1).drop (gv 0 0 (b.drop (gv 0 0 b).2.1)).2.1).drop (gv 0 0 ((b.drop (gv 0 0 b).2.1).drop (gv 0 0 (b.drop (gv 0 0 b).2.1)).2.1)).2.1)
def unS (b:List UInt8):Option (List UInt8):=if(head b).1≠0 then none else bodyS (head b).2.1 (head b).2.2.1 (head b).2.2.2.1 (head b).2.2.2.2
theorem gv_put (n:Nat) (hn:n<9223372036854775808) (r:List UInt8):gv 0 0 (putV n++r)=(n,(putV n).length,0):=by
 have:=gv_putV n 0 0 r (by omega) (by simpa using hn) (by omega);simpa using this
theorem head_put (a b c:Nat) (ha:a<9223372036854775808) (hb:b<9223372036854775808) (hc:c<9223372036854775808) (r:List UInt8):head (putV a++(putV b++(putV c++r)))=(0,a,b,c,r):=by
 unfold head;rw[gv_put a ha];simp only[ne_eq,not_true_eq_false,if_false,List.drop_left'];rw[gv_put b hb];simp only[not_true_eq_false,if_false,List.drop_left'];rw[gv_put c hc];simp only[not_true_eq_false,if_false,List.drop_left']
theorem unS_put (a b c:Nat) (ha:a<9223372036854775808) (hb:b<9223372036854775808) (hc:c<9223372036854775808) (r:List UInt8):unS (putV a++(putV b++(putV c++r)))=bodyS a b c r:=by
 unfold unS;rw[head_put a b c ha hb hc];simp
section
variable {s:List UInt8} {A:List Nat}
open Sx
theorem rks_ok (l:List UInt8):(Fr.rks Fr.row0 l).all okRank=true/\Fr.txt Fr.row0 (Fr.rks Fr.row0 l)=l :=
 have h:=Fr.txt_rks l Fr.row0 Fr.length_row0 Fr.row0_mem
 ⟨h.2,h.1⟩
theorem sy_ok:(sy s A).all okS=true:=by
 have h:=okSym_pk (Fr.rks Fr.row0 (Bw.lst s A)) 0 (rks_ok _).1;refine List.all_eq_true.2 fun x hx=>?_
 have:=List.all_eq_true.1 h x hx;simp[okSym,okS] at *;omega
theorem sy_len (h:Sorted s A):(sy s A).length<=s.length:=by
 have:=length_pk (Fr.rks Fr.row0 (Bw.lst s A)) 0;rw[Fr.length_rks,Bw.length_lst h] at this;unfold sy;omega
theorem pri_le (h:Sorted s A):Bw.pri A<=s.length:=by
 have:=Bw.pri_lt h;have:=Bw.A_len h;omega
theorem pri_may (h:Sorted s A):may s.length (Bw.pri A)=true:=by
 have hl:=Bw.A_len h;have hp:=Bw.pri_lt h;unfold may;by_cases h0:s.length=0
 ·rw[if_pos h0];simp;omega
 ·rw[if_neg h0]
  have h1:=Bw.row0 h (by omega);have h2:Bw.pri A≠0:=by
   intro e;have:=(Bw.zero_iff h 0 (by omega)).2 e.symm;omega
  simp;omega
theorem txt_back (h:Sorted s A) (hs:s.length<=20000):txtS (sy s A) (Bw.pri A) s.length=some s:=by
 have hl:=Bw.A_len h;have ho:=(rks_ok (Bw.lst s A))
 have hu:=unp_pk (Fr.rks Fr.row0 (Bw.lst s A)) 0 ho.1;have hlen:(Fr.rks Fr.row0 (Bw.lst s A)).length=s.length:=by rw[Fr.length_rks,Bw.length_lst h]
 simp only[List.replicate_zero,List.nil_append,Nat.zero_add] at hu;have hE:unpackE (sy s A) (s.length:Int)=0:=by
  have h1:=okSym_pk (Fr.rks Fr.row0 (Bw.lst s A)) 0 ho.1;unfold unpackE sy;rw[if_neg (by rw[h1];simp),if_neg];unfold count;rw[hu.2,hlen];omega
 unfold txtS;rw[if_neg (by omega),if_neg (by rw[hE];simp)];unfold sy;rw[hu.1,if_neg (by rw[hlen];simp),if_pos (pri_may h),ho.2];have h1:=Bw.row0 h (by omega);exact Bw.inv_lst h _ (fun _ _ _=>rfl) s.length 0 [] (by omega) h1 (Nat.le_refl _) (by simp)
theorem back (h:Sorted s A) (hs:s.length<=20000):unS (packed s A)=some s:=by
 have h1:=sy_len h;have h2:=pri_le h;unfold packed;rw[unS_put _ _ _ (by omega) (by omega) (by omega)];unfold bodyS;rw[if_neg (by omega),Hf.back (sy s A) sy_ok];exact txt_back h hs
theorem behind (h:Sorted s A) (hs:s.length<=20000) (t:List UInt8) (ht:t≠ []):unS (packed s A++t)=none:=by
 have h1:=sy_len h;have h2:=pri_le h;unfold packed;rw[List.append_assoc,List.append_assoc,List.append_assoc,unS_put _ _ _ (by omega) (by omega) (by omega)];unfold bodyS;rw[if_neg (by omega),Hf.behind (sy s A) sy_ok t ht]
theorem cut (h:Sorted s A) (hs:s.length<=20000):unS ((packed s A).take ((packed s A).length-1))=none:=by
 have h1:=sy_len h;have h2:=pri_le h;have h3:=hbyt_pos (sy s A);obtain⟨a,c,e⟩:∃a c,a++[c]=hbyt (sy s A):=by
  refine⟨(hbyt (sy s A)).dropLast,(hbyt (sy s A)).getLast (List.ne_nil_of_length_pos (by omega)),List.dropLast_concat_getLast _⟩
 have e2:(packed s A).take ((packed s A).length-1)=putV s.length++(putV (Bw.pri A)++(putV (sy s A).length++a)):=by
  unfold packed;rw[<-e,<-List.append_assoc (putV (sy s A).length),<-List.append_assoc (putV (Bw.pri A)),<-List.append_assoc (putV s.length),List.length_append,List.length_singleton,Nat.add_sub_cancel,List.take_left' rfl]
 rw[e2,unS_put _ _ _ (by omega) (by omega) (by omega)];unfold bodyS;rw[if_neg (by omega),Hf.cut (sy s A) sy_ok a c e]
theorem packed_len (_h:Sorted s A):4<=(packed s A).length:=by
 have h3:=hbyt_pos (sy s A);have:=length_putV_pos s.length;have:=length_putV_pos (Bw.pri A);have:=length_putV_pos (sy s A).length;unfold packed;simp only[List.length_append];omega
end
theorem inv_len (l:List UInt8) (pr:Nat) (st:Nat->Nat):∀(n row:Nat) (out r:List UInt8),Bw.inv l pr st n row out=some r->r.length=n+out.length
 |0,row,out,r,h=>by
  simp only[Bw.inv] at h;split at h<;>simp at h
  subst h;omega
 |n+1,row,out,r,h=>by
  simp only[Bw.inv] at h;split at h
  ·simp at h
  ·have:=inv_len l pr st n _ _ r h
   simp at this;omega
theorem unS_len (b r:List UInt8) (h:unS b=some r):r.length<=20000:=by
 unfold unS at h;split at h;·simp at h
 unfold bodyS at h;split at h;·simp at h
 split at h;·simp at h
 unfold txtS at h;split at h;·simp at h
 split at h;·simp at h
 split at h;·simp at h
 split at h
 ·have:=inv_len _ _ _ _ _ _ _ h
  simp at this;omega
 ·simp at h
end Sq
end Go.Proofs.YtjligbmickfbdaaGreat
namespace Go.Proofs.YtjligbmickfbdaaGreat
namespace Sq
open Go.RowKit Zr
set_option maxHeartbeats 3200000 in
set_option maxRecDepth 100000 in
theorem symbols_any (s:ByteArray) (w:World) (hs:s.size<=20000) :
  Calls Tryz.prog 8 #[.string s] w fun e w'=>∃arr v,Sx.Sorted s.data.toList arr/\e=.returned (.tuple #[v,.int .i64 (Bw.pri arr:Int),.int .i64 0])/\Own w' w.heap.size v (sy s.data.toList arr)/\Below w.heap.size w w':=by
 have mixed:Tryz.prog.follows .mixedOrders=true:=by kernel_rfl
 have HF:=Lib.hid (Bw.forward_any s w hs)
 go_enter Tryz.func8, Tryz.ntmps8
 go_wp2_with fail
 refine HF.out.mono ?_;rintro e1 w1 ⟨arr,hso,rfl,hb1⟩;have hll:=Bw.length_lst hso;obtain⟨t,ht⟩:∃t:ByteArray,t=⟨(Bw.lst s.data.toList arr).toArray⟩:=⟨_,rfl⟩
 have htl:t.data.toList=Bw.lst s.data.toList arr:=by rw[ht]
 have hts:t.size=s.size:=by
  have:t.size=t.data.toList.length:=rfl;rw[this,htl,hll];rfl
 rw[<-ht];have HR:=Lib.hid (Fr.ranks_any t w1 (by omega));rw[htl] at HR;have HSO:=Lib.hid hso;have HB1:=Lib.hid hb1;have hrl:=Fr.length_rks (Bw.lst s.data.toList arr) Fr.row0;have hrok:=(rks_ok (Bw.lst s.data.toList arr)).1;have hsy:sy s.data.toList arr=pk 0 (Fr.rks Fr.row0 (Bw.lst s.data.toList arr)):=rfl;have HSY:=Lib.hid hsy;have HROK:=Lib.hid hrok;have hrl2:(Fr.rks Fr.row0 (Bw.lst s.data.toList arr)).length=s.size:=by rw[hrl,hll];rfl
 generalize Fr.rks Fr.row0 (Bw.lst s.data.toList arr)=rk at *
 clear ht htl hso hb1 hll hrl hsy hrok;go_wp2_with fail
 refine HR.out.mono ?_;rintro e2 w2 ⟨v2,rfl,hown2,hb2⟩;obtain⟨A2,c2,rfl,_,_,hrd2⟩:=hown2.rd;rw[hrl2] at hrd2 ⊢;have HP:=Lib.hid (pack_any A2 s.size c2 rk w2 (by omega) hrd2);have HB2:=Lib.hid (ext_trans HB1.out hb2);clear hown2 hrd2 hb2 HR;go_wp2_with fail
 refine HP.out.mono ?_;rintro e3 w3 ⟨v3,rfl,hown3,hb3⟩;have hpe:packE rk=0:=if_pos HROK.out;have hpl:packL rk=pk 0 rk:=if_pos HROK.out;rw[hpl,<-HSY.out] at hown3;rw[hpe];have HX:=Lib.hid (And.intro (hown3.lower HB2.out.size) (ext_trans HB2.out hb3));clear hown3 hb3 hpe hpl HP;go_wp2_with fail
 go_ret3
 exact⟨arr,_,HSO.out,rfl,HX.out.1,HX.out.2⟩
theorem unp_ok:∀(l acc:List Int),l.all okSym=true->(unp acc l).all okRank=true
 | [],acc,_=>by
   rw[unp];refine List.all_eq_true.2 fun x hx=>?_
   rw[List.eq_of_mem_replicate hx];rfl
 |s::l,acc,h=>by
  rw[List.all_cons,Bool.and_eq_true] at h;rw[unp];split
  ·exact unp_ok l _ h.2
  ·rename_i hd
   rw[List.all_append,List.all_cons,unp_ok l [] h.2,Bool.and_true,Bool.and_eq_true];refine⟨List.all_eq_true.2 fun x hx=>(by rw[List.eq_of_mem_replicate hx];rfl),?_⟩;have h1:=h.1;unfold okSym at h1;unfold isDig at hd;unfold okRank;simp at h1 hd ⊢
   omega
theorem length_txt:∀(l:List Int) (row:List UInt8),(Fr.txt row l).length=l.length
 | [],_=>rfl
 |r::l,row=>by simp[Fr.txt,length_txt l]
theorem may_mayB (n p:Nat):Bw.mayB n (p:Int)=may n p:=by
 unfold Bw.mayB may;by_cases h:n=0
 ·rw[if_pos h,if_pos h];exact decide_eq_decide.2 (by omega)
 ·rw[if_neg h,if_neg h]
  congr 1<;>exact decide_eq_decide.2 (by omega)
theorem may_le (n p:Nat) (h:may n p=true):p<=n:=by
 unfold may at h;split at h
 ·simp at h;omega
 ·simp at h;omega
set_option maxHeartbeats 6400000 in
set_option maxRecDepth 100000 in
theorem stext_any (A:Option Addr) (k c:Nat) (l:List Int) (pr n:Nat) (w:World) (_hk:k<=20000) (hkc:k<=c) (hc:c<=maxLen) (hn:n<=20000) (hrd:Rd w w.heap.size 1 A k (l.map (Value.int .i64))) :
  Calls Tryz.prog 41 #[.slice A k c,.int .i64 (pr:Int),.int .i64 (n:Int)] w fun e w' =>
   ((∃r,txtS l pr n=some r/\e=.returned (.tuple #[.string ⟨r.toArray⟩,.int .i64 0]))∨(txtS l pr n=none/\ ∃x,e=.returned (.tuple #[.string ⟨#[]⟩,.int .i64 x])/\x≠0))/\Below w.heap.size w w':=by
 have mixed:Tryz.prog.follows .mixedOrders=true:=by kernel_rfl
 have HU:=Lib.hid (unpack_any A k c l (n:Int) w hkc hc hrd);obtain⟨T,hT⟩:∃T,T=txtS l pr n:=⟨_,rfl⟩
 simp only[<-hT];have htx:txtS l pr n=if 20000<n then none else if unpackE l n≠0 then none else if(unp [] l).length≠n then none
   else if may n pr=true then Bw.inv (Fr.txt Fr.row0 (unp [] l)) pr (fun row=>Bw.stp (Fr.txt Fr.row0 (unp [] l)) pr row) n 0 [] else none:=rfl
 rw[<-hT,if_neg (by omega)] at htx;have HTX:=Lib.hid htx;have hok:unpackE l n=0->l.all okSym=true:=by
  intro h;unfold unpackE at h;split at h
  ·omega
  ·rename_i hh;simpa using hh
 have HOK:=Lib.hid hok;have hup:unpackE l n=0->unpack l n=unp [] l:=fun h=>if_pos h
 have HUP:=Lib.hid hup;clear hrd hT htx hok hup;generalize unpackE l (n:Int)=ue at *
 generalize unpack l (n:Int)=ul at *
 go_enter Tryz.func41, Tryz.ntmps41
 go_wp2_with fail
 refine HU.out.mono ?_;rintro e1 w1 ⟨v1,rfl,hown1,hb1⟩;have HB1:=Lib.hid hb1;by_cases hue:ue=0
 ·subst hue
  have hul:=HUP.out rfl;subst hul;have hall:=unp_ok l [] (HOK.out rfl);have htx2:=HTX.out;rw[if_neg (by decide)] at htx2;obtain⟨A1,c1,rfl,_,_,hr1⟩:=hown1.rd;by_cases hlen:(unp [] l).length=n
  ·rw[if_neg (by omega)] at htx2
   rw[hlen] at hr1 ⊢;have HTT:=Lib.hid (Fr.text_any A1 n c1 (unp [] l) w1 hn hall hr1);have HT2:=Lib.hid htx2;obtain⟨t,ht⟩:∃t:ByteArray,t=⟨(Fr.txt Fr.row0 (unp [] l)).toArray⟩:=⟨_,rfl⟩
   have htl:t.data.toList=Fr.txt Fr.row0 (unp [] l):=by rw[ht]
   have hts:t.size=n:=by
    have:t.size=t.data.toList.length:=rfl;rw[this,htl,length_txt,hlen]
   rw[<-ht] at HTT;rw[<-htl] at HT2;have HTS:=Lib.hid hts;clear hb1 hown1 hall htx2 hr1 ht htl hlen HTX HUP HOK HU;go_wp2_with fail
   refine HTT.out.mono ?_;rintro e2 w2 ⟨rfl,hb2⟩;have HB2:=Lib.hid (ext_trans HB1.out hb2);clear hb2 HTT;by_cases hm:may n pr=true
   ·have hm2:Bw.mayB t.size (pr:Int)=true:=by rw[hts,may_mayB];exact hm
    have hple:pr<=t.size:=by rw[hts];exact may_le n pr hm
    have HI:=Lib.hid (Bw.inverse_any t pr w2 (by omega) hple hm2);have hT4:=HT2.out;rw[if_pos hm] at hT4;rw[hts] at HI;rw[<-hT4] at HI;clear hm hm2 hple hT4 hts HT2;go_wp2_with fail
    refine HI.out.mono ?_;rintro e3 w3 ⟨hcase,hb3⟩;have HB3:=Lib.hid (ext_trans HB2.out hb3);clear hb3 HI;rcases hcase with ⟨r,hr,rfl⟩|⟨hr,rfl⟩
    ·have HRR:=Lib.hid hr
     clear hr;go_wp2_with fail
     go_ret2
     exact⟨.inl ⟨r,HRR.out,rfl⟩,HB3.out⟩
    ·have HRR:=Lib.hid hr
     clear hr;go_wp2_with fail
     go_ret2
     exact⟨.inr ⟨HRR.out,130,rfl,by decide⟩,HB3.out⟩
   ·have hm2:Bw.mayB t.size (pr:Int)=false:=by rw[hts,may_mayB];simpa using hm
    have HI:=Lib.hid (Bw.inverse_no t (pr:Int) w2 (by omega) hm2);have hT4:=HT2.out;rw[if_neg hm] at hT4;have HT4:=Lib.hid hT4;clear hm hm2 hT4 hts HT2;go_wp2_with fail
    refine HI.out.mono ?_;rintro e3 w3 ⟨rfl,rfl⟩;go_wp2_with fail
    go_ret2
    exact⟨.inr ⟨HT4.out,130,rfl,by decide⟩,HB2.out⟩
  ·rw[if_pos hlen] at htx2
   have HT2:=Lib.hid htx2;have hl1:(((unp [] l).length:Int)==(n:Int))=false:=by rw[beq_eq_false_iff_ne];omega
   have hl2:(((unp [] l).length:Int) != (n:Int))=true:=by rw[bne_iff_ne];omega
   clear hb1 hown1 hall htx2 hr1 HTX HUP HOK HU;generalize (unp [] l).length=ln at *
   go_wp2_with fail
   go_ret2
   exact⟨.inr ⟨HT2.out,5,rfl,by decide⟩,HB1.out⟩
 ·have htx2:=HTX.out
  rw[if_pos hue] at htx2;have HT2:=Lib.hid htx2;have hl1:(ue==0)=false:=by rw[beq_eq_false_iff_ne];exact hue
  have hl2:(ue != 0)=true:=by rw[bne_iff_ne];exact hue
  have HUE:=Lib.hid hue;clear hb1 hown1 htx2 HTX HUP HOK HU hue;go_wp2_with fail
  go_ret2
  exact⟨.inr ⟨HT2.out,ue,rfl,HUE.out⟩,HB1.out⟩
end Sq
end Go.Proofs.YtjligbmickfbdaaGreat
