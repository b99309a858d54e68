/- Bits, the highest first: numbers as bits, bytes as bits: plain lists, no program. -/
import Derived.Test.YtjligbmickfbdaaGreatBe01
namespace Go.Proofs.YtjligbmickfbdaaGreat
namespace Bt
def toB:Nat->Nat->List Bool
 |0,_=>[]
 |w+1,n=>decide (n/2^w%2=1)::toB w n
def ofB:List Bool->Nat
 | []=>0
 |b::r=>(if b then 2^r.length else 0)+ofB r
def bits (l:List UInt8):List Bool:=l.flatMap fun c=>toB 8 c.toNat
theorem length_toB:∀(w n:Nat),(toB w n).length=w
 |0,_=>rfl
 |w+1,n=>by simp[toB,length_toB w n]
theorem toB_add:∀(a b n:Nat),toB (a+b) n=toB a (n/2^b)++toB b n
 |0,b,n=>by simp[toB]
 |a+1,b,n=>by
  rw[show a+1+b=(a+b)+1 by omega];simp only[toB,List.cons_append,toB_add a b n];rw[Nat.div_div_eq_div_mul,<-Nat.pow_add,Nat.add_comm b a]
theorem toB_mod:∀(w b n:Nat),w<=b->toB w (n%2^b)=toB w n
 |0,_,_,_=>rfl
 |w+1,b,n,h=>by
  simp only[toB];rw[toB_mod w b n (by omega)];congr 2;have e:2^b=2^w*(2*2^(b-w-1)):=by
   rw[<-Nat.mul_assoc,<-Nat.pow_succ,<-Nat.pow_add];congr 1;omega
  rw[e,Nat.mod_mul_right_div_self,Nat.mod_mul_right_mod]
theorem toB_join (a b y x:Nat) (h:x<2^b):toB (a+b) (y*2^b+x)=toB a y++toB b x:=by
 rw[toB_add,Nat.add_comm (y*2^b),Nat.add_mul_div_right _ _ (Nat.two_pow_pos b),Nat.div_eq_of_lt h,Nat.zero_add,<-toB_mod b b (x+y*2^b) (Nat.le_refl _),Nat.add_mul_mod_self_right,toB_mod b b x (Nat.le_refl _)]
theorem ofB_lt:∀(l:List Bool),ofB l<2^l.length
 | []=>by simp[ofB]
 |b::r=>by
  have:=ofB_lt r;simp only[ofB,List.length_cons,Nat.pow_succ];split<;>omega
theorem ofB_append:∀(a b:List Bool),ofB (a++b)=ofB a*2^b.length+ofB b
 | [],b=>by simp[ofB]
 |x::a,b=>by
  simp only[List.cons_append,ofB,List.length_append,ofB_append a b];rw[Nat.add_mul];split
  ·rw[Nat.pow_add];omega
  ·omega
theorem ofB_toB:∀(w n:Nat),ofB (toB w n)=n%2^w
 |0,n=>by simp[toB,ofB];omega
 |w+1,n=>by
  simp only[toB,ofB,ofB_toB w n,length_toB];rw[Nat.pow_succ,Nat.mod_mul];have:n/2^w%2=0∨n/2^w%2=1:=by omega
  rcases this with h|h<;>rw[h]<;>simp<;>omega
theorem ofB_toB_lt (w n:Nat) (h:n<2^w):ofB (toB w n)=n:=by rw[ofB_toB,Nat.mod_eq_of_lt h]
theorem toB_ofB:∀(l:List Bool),toB l.length (ofB l)=l
 | []=>rfl
 |b::r=>by
  have hr:=ofB_lt r;have e:ofB (b::r)=(if b then 1 else 0)*2^r.length+ofB r:=by
   simp only[ofB];split<;>simp
  rw[List.length_cons,Nat.add_comm,e,toB_join 1 r.length _ _ hr,toB_ofB r];cases b<;>simp[toB]
theorem ofB_replicate:∀(k:Nat),ofB (List.replicate k false)=0
 |0=>rfl
 |k+1=>by simp[List.replicate_succ,ofB,ofB_replicate k]
theorem toB_zero:∀(k:Nat),toB k 0=List.replicate k false
 |0=>rfl
 |k+1=>by simp[toB,List.replicate_succ,toB_zero k]
theorem ofB_zero:∀(l:List Bool),ofB l=0->l=List.replicate l.length false
 | [],_=>rfl
 |b::r,h=>by
  simp only[ofB] at h;have h1:=ofB_zero r (by omega);have hp:=Nat.two_pow_pos r.length;cases b
  ·rw[List.length_cons,List.replicate_succ,<-h1]
  ·simp at h
theorem length_bits:∀(l:List UInt8),(bits l).length=8*l.length
 | []=>rfl
 |c::l=>by
  have:=length_bits l;simp only[bits,List.flatMap_cons,List.length_append,length_toB,List.length_cons] at *
  omega
theorem bits_cons (c:UInt8) (l:List UInt8):bits (c::l)=toB 8 c.toNat++bits l:=rfl
theorem bits_append (a b:List UInt8):bits (a++b)=bits a++bits b:=List.flatMap_append ..
theorem bits_drop:∀(l:List UInt8) (j:Nat),(bits l).drop (8*j)=bits (l.drop j)
 |l,0=>by simp
 | [],j+1=>by simp[bits]
 |c::l,j+1=>by
  rw[bits_cons,show 8*(j+1)=8+8*j by omega,<-List.drop_drop,List.drop_left' (length_toB 8 _),bits_drop l j];rfl
theorem byte_bits (l:List UInt8) (p k:Nat) (c:UInt8) (h:l[p/8]? =some c) (hk:p%8+k<=8) :
  ((bits l).drop p).take k=toB k (c.toNat/2^(8-p%8-k)):=by
 have hlt:=(List.getElem?_eq_some_iff.1 h).1;have e:(bits l).drop p=((bits l).drop (8*(p/8))).drop (p%8):=by rw[List.drop_drop];congr 1;omega
 have hd:l.drop (p/8)=c::l.drop (p/8+1):=by
  rw[List.drop_eq_getElem_cons hlt];rw[List.getElem?_eq_getElem hlt] at h;congr 1;exact Option.some.inj h
 rw[e,bits_drop,hd,bits_cons,show toB 8 c.toNat=toB (p%8+(k+(8-p%8-k))) c.toNat by congr 1;omega,toB_add (p%8),toB_add k,List.append_assoc,List.drop_left' (length_toB _ _),List.append_assoc,List.take_left' (length_toB _ _)]
theorem take_bits_succ (l:List UInt8) (p:Nat) (w k:Nat):((bits l).drop p).take (w+k)=((bits l).drop p).take w++((bits l).drop (p+w)).take k:=by
 rw[List.take_add,List.drop_drop]
def byt (l:List Bool):List UInt8 :=
 if _h:l.length=0 then[] else UInt8.ofNat (ofB (l.take 8++List.replicate (8-l.length) false))::byt (l.drop 8)
termination_by l.length
decreasing_by simp only[List.length_drop];omega
theorem byt_nil:byt []=[]:=by rw[byt];simp
theorem byt_whole:∀(l:List UInt8) (r:List Bool),byt (bits l++r)=l++byt r
 | [],r=>rfl
 |c::l,r=>by
  rw[bits_cons,List.append_assoc,byt,dif_neg (by simp[length_toB])];have hl:8-(toB 8 c.toNat++(bits l++r)).length=0:=by simp[length_toB]
  rw[hl,List.take_left' (length_toB _ _),List.drop_left' (length_toB _ _),byt_whole l r,List.replicate_zero,List.append_nil,ofB_toB_lt 8 _ c.toNat_lt];simp
theorem byt_part (r:List Bool) (h0:0<r.length) (h:r.length<8):byt r=[UInt8.ofNat (ofB r*2^(8-r.length))]:=by
 rw[byt,dif_neg (by omega),List.take_of_length_le (by omega),List.drop_of_length_le (by omega),byt_nil,ofB_append,ofB_replicate,List.length_replicate];simp
theorem bits_byt:∀(n:Nat) (l:List Bool),l.length=n->bits (byt l)=l++List.replicate ((8-l.length%8)%8) false:=by
 intro n
 induction n using Nat.strongRecOn with
 |ind n ih =>
  intro l hl;rw[byt];by_cases h:l.length=0
  ·rw[dif_pos h,List.eq_nil_of_length_eq_zero h];rfl
  ·rw[dif_neg h,bits_cons]
   have hlt:=ofB_lt (l.take 8++List.replicate (8-l.length) false);have hlen:(l.take 8++List.replicate (8-l.length) false).length=8:=by simp;omega
   rw[hlen] at hlt;rw[UInt8.toNat_ofNat',Nat.mod_eq_of_lt hlt];have:=toB_ofB (l.take 8++List.replicate (8-l.length) false);rw[hlen] at this;rw[this,ih (l.drop 8).length (by simp;omega) _ rfl];by_cases h8:8<=l.length
   ·rw[show 8-l.length=0 by omega,List.replicate_zero,List.append_nil,<-List.append_assoc,List.take_append_drop,List.length_drop,show(l.length-8)%8=l.length%8 by omega]
   ·rw[List.take_of_length_le (by omega),List.drop_of_length_le (by omega),List.nil_append,List.length_nil,show(8-0%8)%8=0 by rfl,List.replicate_zero,List.append_nil,show(8-l.length%8)%8=8-l.length by omega]
theorem length_byt (l:List Bool):(byt l).length=(l.length+7)/8:=by
 have:=congrArg List.length (bits_byt _ l rfl);rw[length_bits,List.length_append,List.length_replicate] at this;omega
def bl (n:Nat):Nat:=if n=0 then 0 else Nat.log2 n+1
theorem bl_spec (n:Nat) (h:0<n):2^(bl n-1)<=n/\n<2^bl n/\0<bl n:=by
 unfold bl;rw[if_neg (by omega),Nat.add_sub_cancel];exact⟨Nat.log2_self_le (by omega),Nat.lt_log2_self,by omega⟩
def gam (n:Nat):List Bool:=toB (bl n-1) 0++toB (bl n) n
theorem length_gam (n:Nat) (h:0<n):(gam n).length=2*bl n-1:=by
 have:=(bl_spec n h).2.2;simp[gam,length_toB];omega
def nz (l:List Bool):Nat:=(l.takeWhile fun b=> !b).length
theorem nz_replicate (k:Nat) (r:List Bool):nz (List.replicate k false++r)=k+nz r:=by
 induction k with
 |zero=>simp
 |succ k ih=>rw[List.replicate_succ,List.cons_append];unfold nz at *;rw[List.takeWhile_cons];simp;omega
theorem nz_true (r:List Bool):nz (true::r)=0:=by simp[nz]
theorem nz_le (l:List Bool):nz l<=l.length:=by
 unfold nz;have:=List.takeWhile_prefix (fun b:Bool=> !b) (l:=l);exact this.length_le
theorem toB_head (n:Nat) (h:0<n):∃r,toB (bl n) n=true::r:=by
 obtain⟨h1,h2,h3⟩:=bl_spec n h;obtain⟨w,hw⟩:∃w,bl n=w+1:=⟨bl n-1,by omega⟩
 rw[hw] at h1 h2 ⊢;simp only[Nat.add_sub_cancel,Nat.pow_succ] at h1 h2;have:n/2^w=1:=by
  rw[Nat.div_eq_iff (Nat.two_pow_pos w)];omega
 exact⟨toB w n,by simp[toB,this]⟩
def getGam (l:List Bool):Int×Nat×List Bool :=
 if l.length=0 then(4,0,l)
 else if nz l=l.length then(4,0,l)
 else if 32<=nz l then(40,0,l)
 else if l.length<2*nz l+1 then(4,0,l)
 else(0,ofB ((l.drop (nz l)).take (nz l+1)),l.drop (2*nz l+1))
theorem getGam_gam (n:Nat) (h:0<n) (h32:n<2^32) (r:List Bool):getGam (gam n++r)=(0,n,r):=by
 obtain⟨h1,h2,h3⟩:=bl_spec n h;obtain⟨t,ht⟩:=toB_head n h;have hz:nz (gam n++r)=bl n-1:=by
  unfold gam;rw[toB_zero,List.append_assoc,nz_replicate,ht,List.cons_append,nz_true,Nat.add_zero]
 have hl:(gam n++r).length=2*bl n-1+r.length:=by rw[List.length_append,length_gam n h]
 have hb:bl n<=32:=by
  rcases Nat.lt_or_ge 32 (bl n) with hlt|hge
  ·have:2^32<=2^(bl n-1):=Nat.pow_le_pow_right (by omega) (by omega)
   omega
  ·exact hge
 unfold getGam;rw[hz,hl,if_neg (by omega),if_neg (by omega),if_neg (by omega),if_neg (by omega)];have e1:(gam n++r).drop (bl n-1)=toB (bl n) n++r:=by
  unfold gam;rw[List.append_assoc,List.drop_left' (length_toB _ _)]
 have e2:(gam n++r).drop (2*(bl n-1)+1)=r:=by
  rw[List.drop_left' (by rw[length_gam n h];omega)]
 rw[e1,e2,show bl n-1+1=bl n by omega,List.take_left' (length_toB _ _),ofB_toB_lt _ _ h2]
end Bt
end Go.Proofs.YtjligbmickfbdaaGreat
