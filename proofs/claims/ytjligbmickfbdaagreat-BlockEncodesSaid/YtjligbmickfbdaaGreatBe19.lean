/- zrun.run, zrun.value, zrun.symbol, zrun.Count, zrun.Unpack. -/
import Derived.Test.YtjligbmickfbdaaGreatBe18
namespace Go.Proofs.YtjligbmickfbdaaGreat
namespace Zr
open Go.RowKit
def rl (l:List Int):Nat:=(l.takeWhile isDig).length
theorem rl_le (l:List Int):rl l<=l.length:=by
 have h:=congrArg List.length (List.takeWhile_append_dropWhile (p:=isDig) (l:=l));rw[List.length_append] at h;unfold rl;omega
theorem rl_take (l:List Int):l.take (rl l)=l.takeWhile isDig:=by
 have h:=List.takeWhile_append_dropWhile (p:=isDig) (l:=l);unfold rl
 conv=>lhs;arg 2;rw[<-h]
 rw[List.take_left' rfl]
theorem rl_drop (l:List Int):l.drop (rl l)=l.dropWhile isDig:=by
 have h:=List.takeWhile_append_dropWhile (p:=isDig) (l:=l);unfold rl
 conv=>lhs;arg 2;rw[<-h]
 rw[List.drop_left' rfl]
theorem rl_stop:∀(l:List Int) (k:Nat),(l.take k).all isDig=true->(∀x,l[k]? =some x->isDig x=false)->k<=l.length->rl l=k
 | [],k,_,_,hk=>by simp at hk;subst hk;rfl
 |x::l,0,_,h,_=>by
  have:=h x rfl;simp[rl,this]
 |x::l,k+1,ha,h,hk=>by
  simp only[List.take_succ_cons,List.all_cons,Bool.and_eq_true] at ha;have ih:=rl_stop l k ha.2 (fun y hy=>h y (by simpa using hy)) (by simpa using hk);unfold rl at ih ⊢;rw[List.takeWhile_cons_of_pos ha.1,List.length_cons,ih]
def RunPost (w:World) (B n c:Nat) (l:List Int) (e:Ending) (w':World):Prop :=
 ∃A1 A2 m,e=.returned (.tuple #[.slice A1 (rl l) (rl l),.slice A2 (n-rl l) (c-rl l)])/\w'=w.drewN m /\
   Rd w' B 1 A1 (rl l) ((l.takeWhile isDig).map (Value.int .i64))/\Rd w' B 1 A2 (n-rl l) ((l.dropWhile isDig).map (Value.int .i64))
set_option maxHeartbeats 1600000 in
theorem run_any (A:Option Addr) (n c:Nat) (l:List Int) (w:World) (B:Nat) (hc:n<=c) (hcm:c<=maxLen) (hrd:Rd w B 1 A n (l.map (Value.int .i64))) :
  Calls Tryz.prog 119 #[.slice A n c] w (RunPost w B n c l):=by
 have hln:l.length=n:=by simpa using hrd.len
 have Hln:=Lib.hid hln;clear hln;unfold maxLen at hcm
 go_enter Tryz.func119, Tryz.ntmps119
 go_wp2_with fail
 go_loop [4] (fun i=>∃k:Nat,i=.int .i64 k/\k<=n/\Hid ((l.take k).all isDig=true)) (fun i=>n-(intOf i).toNat)
 case atStart=>exact⟨0,rfl,by omega,rfl⟩
 case round =>
  obtain⟨k,rfl,hk,hall⟩:=hrel;by_cases hlt:k<n
  ·obtain⟨ad,x,rfl,had,hx,hcell⟩:=hrd.int1 hlt
   have Hx:=Lib.hid hx;clear hx;by_cases h0:x=0
   ·subst h0
    go_wp2_with fail
    go_round
    case rel=>exact⟨k+1,by go_num,by omega,all_take_int l isDig k 0 Hx.out hall.out rfl⟩
    case measure=>simp[intOf];omega
   by_cases h1:x=1
   ·subst h1
    go_wp2_with fail
    go_round
    case rel=>exact⟨k+1,by go_num,by omega,all_take_int l isDig k 1 Hx.out hall.out rfl⟩
    case measure=>simp[intOf];omega
   have b0:(x==0)=false:=by rw[beq_eq_false_iff_ne];exact h0
   have b1:(x==1)=false:=by rw[beq_eq_false_iff_ne];exact h1
   go_wp2_with fail
   go_quiet (fail)
   go_wp2_with fail
   go_ret2
   have hrl:rl l=k:=rl_stop l k hall.out (fun y hy=>by rw[Hx.out] at hy;cases hy;simp[isDig,b0,b1]) (by have:=Hln.out;omega);have ht:=rl_take l;have hd:=rl_drop l;unfold RunPost;rw[hrl] at ht hd ⊢;refine⟨_,_,nq,rfl,rfl,?_,?_⟩
   ·rw[<-ht]
    have:=(hrd.drewN nq).take (k:=k) (by omega);simpa[List.map_take] using this
   ·rw[<-hd]
    have:=(hrd.drewN nq).drop (k:=k) (by omega) hc;rw[if_neg (by omega)] at this;simpa[List.map_drop] using this
  ·have hkn:k=n:=by omega
   have hrl:rl l=n:=rl_stop l n (by rw[<-hkn];exact hall.out) (fun y hy=>by rw[List.getElem?_eq_none (by have:=Hln.out;omega)] at hy;cases hy) (by have:=Hln.out;omega);subst hkn;have Hrl:=Lib.hid hrl;clear hrl;go_wp2_with fail
   go_quiet (fail)
   go_wp2_with fail
   all_goals
    go_ret2
    have hrl:=Hrl.out;have ht:=rl_take l;have hd:=rl_drop l;unfold RunPost;rw[hrl] at ht hd ⊢;simp only[Nat.sub_self]
   ·refine⟨_,_,nq,rfl,rfl,?_,?_⟩
    ·rw[<-ht]
     have:=(hrd.drewN nq).take (k:=k) (by omega);simpa[List.map_take] using this
    ·rw[<-hd,List.drop_of_length_le (by have:=Hln.out;omega)]
     exact Rd.nil
   ·refine⟨_,_,nq,rfl,rfl,?_,?_⟩
    ·rw[<-ht]
     have:=(hrd.drewN nq).take (k:=k) (by omega);simpa[List.map_take] using this
    ·rw[<-hd,List.drop_of_length_le (by have:=Hln.out;omega)]
     exact Rd.nil
theorem symbol_any (x:Int) (w:World):Calls Tryz.prog 117 #[.int .i64 x] w fun e w'=>e=.returned (.bool (okSym x))/\w=w':=by
 go_enter Tryz.func117, Tryz.ntmps117
 go_wp2
 all_goals
  go_ret
  refine⟨ret_bool ?_,rfl⟩;unfold okSym;rw[Bool.eq_iff_iff];simp
  try omega
set_option maxHeartbeats 800000 in
theorem value_any (A:Option Addr) (n c:Nat) (l:List Int) (w:World) (B:Nat) (hm:n<=maxLen) (hd:l.all isDig=true) (hrd:Rd w B 1 A n (l.map (Value.int .i64))) :
  Calls Tryz.prog 120 #[.slice A n c] w fun e w'=>e=.returned (.int .i64 (min (val l) 100001:Nat))/\w=w':=by
 have hln:l.length=n:=by simpa using hrd.len
 have Hln:=Lib.hid hln;have Hd:=Lib.hid hd;clear hln hd;unfold maxLen at hm
 go_enter Tryz.func120, Tryz.ntmps120
 go_wp2_with fail
 go_loop [3,4] (fun v i=>∃k:Nat,i=.int .i64 ((k:Int)-1)/\k<=n/\v=.int .i64 (min (val (l.drop k)) 100001:Nat)) (fun _ i=>(intOf i+1).toNat)
 case atStart=>exact⟨n,rfl,by omega,by rw[List.drop_of_length_le (by have:=Hln.out;omega)];rfl⟩
 case round =>
  obtain⟨k,rfl,hk,rfl⟩:=hrel;rcases k with _|k
  ·go_wp2_with fail
   go_ret
   exact⟨rfl,rfl⟩
  ·obtain⟨ad,x,rfl,had,hx,hcell⟩:=hrd.int1 (show k<n by omega)
   have hx01:x=0∨x=1:=by
    have:=List.all_eq_true.1 Hd.out x (List.mem_of_getElem? hx);simpa[isDig] using this
   have Hx:=Lib.hid (drop_at l k x hx);clear hx;have Hv:Hid (val (l.drop k)=2*val (l.drop (k+1))+x.toNat+1):=by rw[Hx.out];rfl
   generalize val (l.drop (k+1))=t at *
   have ht:min t 100001<=100001:=by omega
   go_wp2_with fail
   refine⟨⟨k,rfl,by omega,?_⟩,by simp[intOf]⟩;rw[Hv.out];congr 1;split<;>omega
def cntTail:List Int->Nat
 | []=>0
 |x::r=>(if okSym x=true then 1 else 0)+cnt [] r
theorem cnt_run (l:List Int):cnt [] l=val (l.takeWhile isDig)+cntTail (l.dropWhile isDig):=by
 have h:=cnt_digs (l.takeWhile isDig) [] (l.dropWhile isDig) (List.all_takeWhile ..);rw[List.takeWhile_append_dropWhile,List.nil_append] at h;rw[h];rcases hd:l.dropWhile isDig with _|⟨x,r⟩
 ·simp[cnt,cntTail]
 ·have hx:isDig x=false:=by
   have:=List.head_dropWhile_not (p:=isDig) (l:=l) (by rw[hd];simp);simpa[hd] using this
  simp[cnt,cntTail,hx];omega
def unpTail:List Int->List Int
 | []=>[]
 |x::r=>(x-1)::unp [] r
theorem unp_run (l:List Int):unp [] l=List.replicate (val (l.takeWhile isDig)) 0++unpTail (l.dropWhile isDig):=by
 have h:=unp_digs (l.takeWhile isDig) [] (l.dropWhile isDig) (List.all_takeWhile ..);rw[List.takeWhile_append_dropWhile,List.nil_append] at h;rw[h];rcases hd:l.dropWhile isDig with _|⟨x,r⟩
 ·simp[unp,unpTail]
 ·have hx:isDig x=false:=by
   have:=List.head_dropWhile_not (p:=isDig) (l:=l) (by rw[hd];simp);simpa[hd] using this
  simp[unp,unpTail,hx]
theorem cap_add (a b:Nat):(if(100001:Int)<((min a 100001:Nat):Int)+((min b 100001:Nat):Int) then 100001 else((min a 100001:Nat):Int)+((min b 100001:Nat):Int))=((min (a+b) 100001:Nat):Int):=by
 split<;>omega
theorem cap_one (a:Nat):(if(100001:Int)<((min a 100001:Nat):Int)+1 then 100001 else((min a 100001:Nat):Int)+1)=((min (a+1) 100001:Nat):Int):=by
 split<;>omega
def lenV:Value->Nat|.slice _ n _=>n|_=>0
set_option maxHeartbeats 1600000 in
theorem count_any (A:Option Addr) (n c:Nat) (l:List Int) (w:World) (B:Nat) (_hB:B<=w.heap.size) (hc:n<=c) (hcm:c<=maxLen) (hrd:Rd w B 1 A n (l.map (Value.int .i64))) :
  Calls Tryz.prog 118 #[.slice A n c] w fun e w'=>e=.returned (.int .i64 (count l))/\ ∃m,w'=w.drewN m:=by
 unfold count
 go_enter Tryz.func118, Tryz.ntmps118
 go_wp2_with fail
 go_loopw [0,3] (fun s v wr=>∃(A':Option Addr) (n' c' m:Nat) (l':List Int) (t:Nat),s=.slice A' n' c'/\wr=w.drewN m/\n'<=c'/\c'<=maxLen/\Rd wr B 1 A' n' (l'.map (Value.int .i64))/\v=.int .i64 (min t 100001:Nat)/\Hid (t+cnt [] l'=cnt [] l)) (fun s _ _=>lenV s)
 case atStart=>exact⟨A,n,c,0,l,0,rfl,rfl,hc,hcm,hrd,rfl,Nat.zero_add _⟩
 case round =>
  obtain⟨A',n',c',m,l',t,rfl,rfl,hc',hcm',hrd',rfl,htot⟩:=hrel;have hln':l'.length=n':=by simpa using hrd'.len
  have Hln:=Lib.hid hln';clear hln';have ht:min t 100001<=100001:=by omega
  by_cases hlt:0<n'
  ·have hrl:=rl_le l'
   rw[Hln.out] at hrl;go_wp2_with fail
   refine(run_any A' n' c' l' _ B hc' hcm' hrd').mono ?_;rintro e w2 ⟨A1,A2,m2,rfl,rfl,r1,r2⟩;rw[World.drewN_drewN] at r1 r2;have Hcr:=Lib.hid (cnt_run l');have hdl:(l'.dropWhile isDig).length=n'-rl l':=by simpa using r2.len
   have htw:(l'.takeWhile isDig).all isDig=true:=List.all_takeWhile ..;generalize l'.takeWhile isDig=d at *
   rcases hrest:l'.dropWhile isDig with _|⟨x,rest⟩
   ·rw[hrest] at hdl Hcr r2
    have hn0:n'-rl l'=0:=by simpa using hdl.symm
    have Hdl:=Lib.hid hdl;have Htw:=Lib.hid htw;clear hrest hdl htw;go_wp2_with fail
    refine(value_any A1 _ _ d _ B (by omega) Htw.out r1).mono ?_;rintro e w3 ⟨rfl,rfl⟩;have hv:min (val d) 100001<=100001:=by omega
    rw[hn0] at r2;go_wp2_with fail
    refine⟨⟨A2,0,c'-rl l',m+m2,[],t+val d,rfl,rfl,by omega,by omega,r2,?_,?_⟩,by simp[lenV];omega⟩
    ·refine congrArg (Value.int .i64) ?_
     split<;>omega
    ·have h1:=htot.out
     rw[Hcr.out] at h1;show t+val d+cnt [] []=_
     simp[cntTail] at h1
     simp[cnt,val];omega
   ·rw[hrest] at hdl Hcr r2
    have hn0:rl l'<n':=by have:0<n'-rl l':=by rw[<-hdl];simp
                          omega
    have hre:rest.length=n'-rl l'-1:=by rw[<-hdl];simp
    obtain⟨ad2,x',rfl,had2,hx',hcell⟩:=r2.int1 (k:=0) (by omega);simp at hx'
    subst hx';have hcell0:=hcell;rw[show ad2.add 0=ad2 by simp[Addr.add]] at hcell0;have Hdl:=Lib.hid hdl;have Htw:=Lib.hid htw;have Hre:=Lib.hid hre;clear hrest hdl htw hre;go_wp2_with fail
    refine(value_any A1 _ _ d _ B (by omega) Htw.out r1).mono ?_;rintro e w3 ⟨rfl,rfl⟩;have hv:min (val d) 100001<=100001:=by omega
    have hmin:=cap_add t (val d);have hv2:min (t+val d) 100001<=100001:=by omega
    have r3:=r2.drop (k:=1) (cap:=c'-rl l') (by omega) (by omega);by_cases hs:okSym x=true
    ·have Hs:=Lib.hid hs
     clear hs;go_wp2_with fail
     refine(symbol_any x _).mono ?_;rintro e w4 ⟨rfl,rfl⟩;rw[Hs.out];go_wp2_with fail
     refine⟨⟨_,n'-rl l'-1,c'-rl l'-1,m+m2,rest,t+val d+1,rfl,rfl,by omega,by omega,?_,?_,?_⟩,by simp[lenV];omega⟩
     ·simpa[Addr.add] using r3
     ·exact congrArg (Value.int .i64) (cap_one (t+val d))
     ·have h1:=htot.out
      rw[Hcr.out] at h1;show t+val d+1+cnt [] rest=_
      simp[cntTail,Hs.out] at h1
      omega
    ·have Hs:=Lib.hid (Bool.eq_false_iff.2 hs)
     clear hs;go_wp2_with fail
     refine(symbol_any x _).mono ?_;rintro e w4 ⟨rfl,rfl⟩;rw[Hs.out];go_wp2_with fail
     refine⟨⟨_,n'-rl l'-1,c'-rl l'-1,m+m2,rest,t+val d,rfl,rfl,by omega,by omega,?_,?_,?_⟩,by simp[lenV];omega⟩
     ·simpa[Addr.add] using r3
     ·rfl
     ·have h1:=htot.out
      rw[Hcr.out] at h1;show t+val d+cnt [] rest=_
      simp[cntTail,Hs.out] at h1
      omega
  ·have hn':n'=0:=by omega
   have hl':l'=[]:=List.eq_nil_of_length_eq_zero (by rw[Hln.out,hn']);have h1:=htot.out;rw[hl'] at h1;have H1:=Lib.hid h1;clear h1 hn' hl';go_wp2_with fail
   go_ret
   refine⟨ret_int ?_,m,rfl⟩;rw[<-H1.out];simp[cnt,val]
end Zr
end Go.Proofs.YtjligbmickfbdaaGreat
