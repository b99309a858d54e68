/- Runs of noughts as digits, the reference's ways: the same lists of numbers. Runs of noughts as digits: each function of package zrun tells what the plain functions of ZrunPlain tell, in new memory; nothing that was there has turned. zrun.Pack: its closure, and itself. zrun.Pack, zrun.run, zrun.value. -/
import Derived.Test.YtjligbmickfbdaaGreatBe07
import Derived.Test.YtjligbmickfbdaaGreatRows
import Derived.Test.YtjligbmickfbdaaGreatBe03
import Derived.Deep.LoopGhost
namespace Go.Proofs.YtjligbmickfbdaaGreat
namespace Zr
def digR (m:Nat):List Int:=if _h:m=0 then[] else(2-(m%2:Nat):Int)::digR ((m-(2-m%2))/2)
termination_by m
decreasing_by omega
theorem digR_zero:digR 0=[]:=by rw[digR,dif_pos rfl]
theorem digR_step {m:Nat} (h:0<m):digR m=(2-(m%2:Nat):Int)::digR ((m-(2-m%2))/2):=by rw[digR,dif_neg (by omega)]
theorem digR_eq:∀(m:Nat),digR m=digTo (m+1):=by
 intro m
 induction m using Nat.strongRecOn with
 |ind m ih =>
  by_cases h:m=0
  ·subst h;rw[digR_zero,digTo_small (by omega)]
  ·rw[digR_step (by omega),digTo_step (by omega),ih _ (by omega)]
   congr 1
   ·omega
   ·congr 1;omega
def pw:Nat->Int
 |0=>1
 |n+1=>if pw n<1000000 then 2*pw n else pw n
def num:List Int->Nat
 | []=>0
 |d::l=>d.toNat+2*num l
theorem num_val (l:List Int) (h:l.all isDig=true):num (l.map (· +1))=val l:=by
 induction l with
 |nil=>rfl
 |cons d l ih =>
  simp only[List.all_cons,Bool.and_eq_true] at h;have hd:d=0∨d=1:=by simpa[isDig] using h.1
  simp only[List.map_cons,num,val,ih h.2];omega
theorem num_append:∀(l r:List Int),num (l++r)=num l+2^l.length*num r
 | [],r=>by simp[num]
 |d::l,r=>by
  simp only[List.cons_append,num,num_append l r,List.length_cons,Nat.pow_succ];rw[Nat.mul_add];rw[Nat.mul_comm (2^l.length) 2,Nat.mul_assoc];omega
def is12 (d:Int):Bool:=(d==1)||(d==2)
theorem num_ge:∀(l:List Int),l.all is12=true->2^l.length<=num l+1
 | [],_=>by simp[num]
 |d::l,h=>by
  simp only[List.all_cons,Bool.and_eq_true] at h;have hd:d=1∨d=2:=by simpa[is12] using h.1
  have:=num_ge l h.2;simp only[num,List.length_cons,Nat.pow_succ];omega
theorem pw_small:∀n,n<=17->pw n=2^n:=by
 intro n hn;have:n=0∨n=1∨n=2∨n=3∨n=4∨n=5∨n=6∨n=7∨n=8∨n=9∨n=10∨n=11∨n=12∨n=13∨n=14∨n=15∨n=16∨n=17:=by omega
 rcases this with rfl|rfl|rfl|rfl|rfl|rfl|rfl|rfl|rfl|rfl|rfl|rfl|rfl|rfl|rfl|rfl|rfl|rfl<;>decide
theorem few (l:List Int) (h:l.all is12=true) (hs:num l<=100001):l.length<=16:=by
 have:=num_ge l h;rcases Nat.lt_or_ge 16 l.length with hl|hl
 ·have:(2:Nat)^17<=2^l.length:=Nat.pow_le_pow_right (by omega) hl
  omega
 ·exact hl
end Zr
end Go.Proofs.YtjligbmickfbdaaGreat
namespace Go.Proofs.YtjligbmickfbdaaGreat
namespace Zr
open Go.RowKit
theorem pow_digTo:∀(m:Nat),1<=m->2^(digTo m).length<=m:=by
 intro m
 induction m using Nat.strongRecOn with
 |ind m ih =>
  intro hm;by_cases h:m<=1
  ·rw[digTo_small h];simpa using hm
  ·rw[digTo_step (by omega),List.length_cons,Nat.pow_succ]
   have:=ih (m/2) (by omega) (by omega);omega
theorem length_digTo (m:Nat) (h1:1<=m) (h:m<=9223372036854775808):(digTo m).length<=63:=by
 have:=pow_digTo m h1;rcases Nat.lt_or_ge 63 (digTo m).length with hl|hl
 ·have h2:(2:Nat)^64<=2^(digTo m).length:=Nat.pow_le_pow_right (by omega) hl
  omega
 ·exact hl
set_option maxHeartbeats 800000 in
theorem digits_any (n:Int) (h0:n<=9223372036854775807) (w:World) :
  Calls Tryz.prog 52 #[.int .i64 n] w fun e w'=>∃v,e=.returned v/\Own w' w.heap.size v (digits n)/\Below w.heap.size w w':=by
 by_cases h1:n<1
 ·have hd:digits n=[]:=if_pos h1
  rw[hd];clear hd
  go_enter Tryz.func52, Tryz.ntmps52
  go_wp2_with fail
  go_ret
  exact⟨_,rfl,World.ownsRow_nil _ _ _ _,Below.refl _ _⟩
 ·have hd:digits n=digTo (n.toNat+1):=if_neg h1
  rw[hd];clear hd;obtain⟨N,rfl⟩:=Int.eq_ofNat_of_zero_le (show 0<=n by omega);have hlen:=length_digTo (N+1) (by omega) (by omega);rw[Int.toNat_natCast]
  go_enter Tryz.func52, Tryz.ntmps52
  go_wp2_with fail
  go_loopw [3,4] (fun v m wr=>∃(mk:Nat) (acc:List Int),m=.int .u64 mk/\1<=mk/\mk<=9223372036854775808/\Hid (acc++digTo mk=digTo (N+1))/\acc.length<=63/\Own wr w.heap.size v acc/\Below w.heap.size w wr) (fun _ m _=>(intOf m).toNat)
  case atStart=>exact⟨N+1,[],by go_num,by omega,by omega,rfl,by simp,World.ownsRow_nil _ _ _ _,Below.refl _ _⟩
  case round =>
   obtain⟨mk,acc,rfl,hm1,hm2,heq,hacc,hown,hbw⟩:=hrel;by_cases hlt:1<mk
   ·go_wp2_with (at_builtin;refine append1 hown (by omega) hbw.size ?_;intro A1 n1 c1 w1 _ hown1 hb1 _ _)
    have hst:=digTo_step hlt;have hac:(acc++[((mk%2:Nat)+1:Int)])++digTo (mk/2)=digTo (N+1):=by
     have:=heq.out;rw[hst] at this;simpa using this
    have hll:=congrArg List.length hac;simp only[List.length_append,List.length_cons,List.length_nil] at hll;refine⟨⟨mk/2,acc++[((mk%2:Nat)+1:Int)],by go_num,by omega,by omega,hac,by simp;omega,?_,hbw.trans hb1⟩,by simp[intOf];omega⟩;have hy:wrap64 (wrap64 (bits .and .u64 (mk:Int) 1)+1)=((mk%2:Nat)+1:Int):=by
     rw[and_one_u64 _ (by omega) (by omega)];unfold wrap64;omega
    rwa [hy] at hown1
   ·go_wp2_with fail
    go_ret
    have hd:digTo mk=[]:=digTo_small (by omega);have he:acc=digTo (N+1):=by have:=heq.out;rwa [hd,List.append_nil] at this
    exact⟨_,rfl,he▸hown,hbw⟩
end Zr
end Go.Proofs.YtjligbmickfbdaaGreat
namespace Go.Proofs.YtjligbmickfbdaaGreat
namespace Zr
open Go.RowKit
theorem low_is (n:Nat):low n=(digits n).map (· -1):=rfl
theorem length_digits (n:Nat) (h:(n:Int)<=9223372036854775807):(digits n).length<=63:=by
 rw[digits_nat];exact length_digTo (n+1) (by omega) (by omega)
theorem digits_12 (n:Nat) (k:Nat) (x:Int) (h:(digits n)[k]? =some x):1<=x/\x<=2:=by
 have hm:=List.mem_of_getElem? h;have:=List.all_eq_true.1 (low_dig n) (x-1) (by rw[low_is];exact List.mem_map.2 ⟨x,hm,rfl⟩);simp[isDig] at this
 omega
theorem low_at (n k:Nat) (x:Int) (h:(digits n)[k]? =some x):(low n).take (k+1)=(low n).take k++[x-1] :=
 take_snoc_int _ _ _ (by rw[low_is,List.getElem?_map,h];rfl)
set_option maxHeartbeats 800000 in
theorem flush_any (R O run B:Nat) (v:Value) (acc:List Int) (w:World) (hB:B<=w.heap.size) (hr:(run:Int)<=5000000) (hacc:acc.length<=1000000000)
  (hR:Var w R 3 (.int .i64 run)) (hO:Var w O 28 v) (hRO:R≠O) (hvR:v.ownBlock≠some R) (hvO:v.ownBlock≠some O) (hBR:B<=R) (hBO:B<=O) (hown:Own w B v acc) :
  Calls Tryz.prog 51 #[.pointer (some ⟨R,0,none⟩),.pointer (some ⟨O,0,none⟩)] w fun e w'=>e=.returned (.tuple #[])/\Below B w w' /\
   ∃v',Var w' R 3 (.int .i64 0)/\Var w' O 28 v'/\v'.ownBlock≠some R/\v'.ownBlock≠some O/\Own w' B v' (acc++low run):=by
 have hR1:=hR.cell;have hR2:=hR.lt;have hO2:=hO.lt;have hlen:=length_digits run (by omega)
 go_enter Tryz.func51, Tryz.ntmps51
 go_wp2_with fail
 refine(digits_any _ (by omega) _).mono ?_;rintro e w1 ⟨d,rfl,hd,hb1⟩;obtain⟨A,c,rfl,hc,hm,_⟩:=hd.rd;have hR':=hR.below hb1 hR2;have hO':=hO.below hb1 hO2;have hown':Own w1 B v acc:=hown.below hb1 (Nat.le_refl _);have hb1':Below B w w1:=hb1.mono hB;have hz1:=hb1.size;have hdl:=World.ownsRow.lt hd;have hvl:=World.ownsRow.lt hown;clear hR1;go_wp2_with fail
 go_loopw [7] (fun i wr=>∃(k:Nat) (u:Value),i=.int .i64 k/\k<=(digits run).length/\Var wr R 3 (.int .i64 run)/\Var wr O 28 u/\(u.ownBlock=v.ownBlock∨ ∃g,u.ownBlock=some g/\w1.heap.size<=g) /\
   Own wr B u (acc++(low run).take k)/\Below B w wr/\Own wr w.heap.size (.slice A (digits run).length c) (digits run)/\w1.heap.size<=wr.heap.size) (fun i _=>(digits run).length-(intOf i).toNat)
 case atStart=>exact⟨0,v,rfl,by omega,hR',hO',.inl rfl,by simpa using hown',hb1',hd,Nat.le_refl _⟩
 case round =>
  obtain⟨k,u,rfl,hk,gR,gO,gu,gown,gb,gd,gz⟩:=hrel;have guR:u.ownBlock≠some R:=by
   rcases gu with e|⟨g,e,hg⟩
   ·rw[e];exact hvR
   ·rw[e];intro h;simp at h;omega
  have guO:u.ownBlock≠some O:=by
   rcases gu with e|⟨g,e,hg⟩
   ·rw[e];exact hvO
   ·rw[e];intro h;simp at h;omega
  have guD:Value.ownBlock (.slice A (digits run).length c)=none∨Value.ownBlock (.slice A (digits run).length c)≠u.ownBlock:=by
   rcases hx:Value.ownBlock (.slice A (digits run).length c) with _|gd
   ·exact .inl rfl
   ·right
    have h1:=hdl gd hx;rcases gu with e|⟨g,e,hg⟩
    ·rw[e];intro h;have:=hvl gd h.symm;omega
    ·rw[e];intro h;simp at h;omega
  have hO1:=gO.cell;have hO3:=gO.frozen;have hR3:=gR.frozen;have hR4:=gR.cell;obtain⟨_,_,hAe,_,_,grd⟩:=gd.rd;simp only[Value.slice.injEq,true_and] at hAe;obtain⟨rfl,rfl⟩:=hAe;by_cases hlt:k<(digits run).length
  ·obtain⟨ad,x,rfl,had,hx,hcell⟩:=grd.int1 hlt
   have hx12:=digits_12 run k x hx;have Hx:=Lib.hid hx;clear hx;go_wp2_with (at_builtin;(refine append1 gown (by simp;omega) (Nat.le_trans hB gb.size) ?_);intro A1 n1 c1 w2 hn1 hown1 hb2 hg2 hat;have gO2:=gO.grown hg2 guO;have hO1':=gO2.cell;have hO3':=gO2.frozen)
   have hat':Value.ownBlock (.slice A1 n1 c1)=v.ownBlock∨ ∃g,Value.ownBlock (.slice A1 n1 c1)=some g/\w1.heap.size<=g:=by
    rcases hat with e|⟨g,e,hg⟩
    ·rw[e];exact gu
    ·exact .inr ⟨g,e,by omega⟩
   have gvO:Value.ownBlock (.slice A1 n1 c1)≠some O:=by
    rcases hat' with e|⟨g,e,hg⟩
    ·rw[e];exact hvO
    ·rw[e];intro h;simp at h;omega
   go_roundw
   case rel =>
    refine⟨k+1,_,by go_num,by omega,(gR.grown hg2 guR).far hRO _,gO2.set_ _,hat',?_,(gb.trans hb2).setCell hBO _,?_,?_⟩
    ·rw[low_at run k x Hx.out,<-List.append_assoc]
     exact own_setCell_far (a:=⟨O,0,none⟩) hown1 gvO _
    ·refine own_setCell_far (World.ownsRow.kept gd hg2 guD) ?_ _
     intro h;have:=hdl _ h;simp at this;omega
    ·have:=hg2.size;simp[World.setCell];omega
   case measure=>simp[intOf];omega
  ·go_wp2_with fail
   exact bodyPost_end (results_none rfl _ _ _) rfl (by
    refine⟨rfl,gb.setCell hBR _,u,gR.set_ _,gO.far (Ne.symm hRO) _,guR,guO,?_⟩;rw[List.take_of_length_le (by rw[low_is,List.length_map];omega)] at gown;exact own_setCell_far gown guR _)
end Zr
end Go.Proofs.YtjligbmickfbdaaGreat
namespace Go.Proofs.YtjligbmickfbdaaGreat
namespace Zr
open Go.RowKit
def packE (l:List Int):Int:=if l.all okRank=true then 0 else 60
def packL (l:List Int):List Int:=if l.all okRank=true then pk 0 l else[]
theorem all_take_int (l:List Int) (p:Int->Bool) (k:Nat) (x:Int) (h:l[k]? =some x) (ha:(l.take k).all p=true) (hp:p x=true):(l.take (k+1)).all p=true:=by
 rw[take_snoc_int l k x h];simp only[List.all_append,ha,List.all_cons,hp,List.all_nil];rfl
theorem all_false_int (l:List Int) (p:Int->Bool) (k:Nat) (x:Int) (h:l[k]? =some x) (hp:p x=false):l.all p=false:=by
 rw[List.all_eq_false];exact⟨x,List.mem_of_getElem? h,by simp[hp]⟩
structure PackRel (w:World) (O n:Nat) (l:List Int) (i:Value) (wr:World) (k r:Nat) (u:Value) (acc:List Int):Prop where
 hi:i=.int .i64 k
 hk:k<=n
 hr:r<=k
 vO:Var wr O 28 u
 vR:Var wr (O+1) 3 (.int .i64 r)
 uO:u.ownBlock≠some O
 uR:u.ownBlock≠some (O+1)
 own:Own wr w.heap.size u acc
 below:Below w.heap.size w wr
 hacc:acc++pk r (l.drop k)=pk 0 l
 hall:(l.take k).all okRank=true
set_option maxHeartbeats 1600000 in
theorem pack_any (A:Option Addr) (n c:Nat) (l:List Int) (w:World) (hn:n<=5000000) (hrd:Rd w w.heap.size 1 A n (l.map (Value.int .i64))) :
  Calls Tryz.prog 22 #[.slice A n c] w fun e w'=>∃v,e=.returned (.tuple #[v,.int .i64 (packE l)])/\Own w' w.heap.size v (packL l)/\Below w.heap.size w w':=by
 have hln:l.length=n:=by simpa using hrd.len
 have hpl:=length_pk l 0;have Hln:=Lib.hid hln;rw[hln] at hpl;clear hln
 go_enter Tryz.func22, Tryz.ntmps22
 go_wp2_with fail
 go_step3
 go_wp2_with (at_make;(refine make0 (n:=n) (by omega) (Nat.le_refl w.heap.size) ?_);intro w1 hown1 hg1 hz1)
 go_step3
 go_wp2_with fail
 have hb1:Below w.heap.size w w1:=(Below.refl _ _).grown hg1 (Nat.le_refl _) (by simp);have hO0:=(Var.new w1 28 (.slice (some ⟨w.heap.size,0,none⟩) 0 n)).alloc (.cells #[.int .i64 0] 3);have hR0:=Var.new (w1.alloc (.cells #[.slice (some ⟨w.heap.size,0,none⟩) 0 n] 28)) 3 (.int .i64 0);rw[World.size_alloc] at hR0;have hw2:Own ((w1.alloc (.cells #[.slice (some ⟨w.heap.size,0,none⟩) 0 n] 28)).alloc (.cells #[.int .i64 0] 3)) w.heap.size (.slice (some ⟨w.heap.size,0,none⟩) 0 n) []:=(World.ownsRow.alloc hown1 _).alloc _;have hb2:Below w.heap.size w ((w1.alloc (.cells #[.slice (some ⟨w.heap.size,0,none⟩) 0 n] 28)).alloc (.cells #[.int .i64 0] 3)):=(hb1.alloc (by omega) _).alloc (by simp;omega) _;have hO':w.heap.size<w1.heap.size:=hz1;generalize hOO:w1.heap.size=O at *
 go_loopw [15] (fun i wr=>∃(k r:Nat) (u:Value) (acc:List Int),PackRel w O n l i wr k r u acc) (fun i _=>n-(intOf i).toNat)
 case atStart=>exact⟨0,0,_,[],⟨rfl,by omega,by omega,hO0,hR0,by simp[Value.ownBlock];omega,by simp[Value.ownBlock];omega,hw2,hb2,by simp,by simp⟩⟩
 case round =>
  obtain⟨k,r,u,acc,rfl,hk,hr,gO,gR,guO,guR,gown,gb,gacc,gall⟩:=hrel;have hll:=congrArg List.length gacc;rw[List.length_append] at hll;have Hacc:=Lib.hid gacc;have Hall:=Lib.hid gall;clear gacc gall hOO;have hal:acc.length<=n:=by omega
  clear hll;have hR1:=gR.cell;have hR3:=gR.frozen;have grd:=(hrd.below gb)
  by_cases hlt:k<n
  ·obtain⟨ad,x,rfl,had,hx,hcell⟩:=grd.int1 hlt
   have Hx:=Lib.hid hx;clear hx;by_cases hx0:x<0
   ·go_wp2_with fail
    try rw[Exit.noGoto_ret]
    go_ret2
    have hno:l.all okRank=false:=all_false_int l okRank k x Hx.out (by simp[okRank];omega);unfold packE packL;rw[if_neg (by rw[hno];simp),if_neg (by rw[hno];simp)];exact⟨_,rfl,World.ownsRow_nil _ _ _ _,gb⟩
   by_cases hx1:255<x
   ·go_wp2_with fail
    try rw[Exit.noGoto_ret]
    go_ret2
    have hno:l.all okRank=false:=all_false_int l okRank k x Hx.out (by simp[okRank];omega);unfold packE packL;rw[if_neg (by rw[hno];simp),if_neg (by rw[hno];simp)];exact⟨_,rfl,World.ownsRow_nil _ _ _ _,gb⟩
   have hok:okRank x=true:=by simp[okRank];omega
   have Hall':=Lib.hid (all_take_int l okRank k x Hx.out Hall.out hok);clear hok;by_cases hx2:x=0
   ·have hac:acc++pk (r+1) (l.drop (k+1))=pk 0 l:=by
     rw[<-Hacc.out,drop_at l k x Hx.out,pk,if_pos hx2]
    have Hac:=Lib.hid hac;clear hac;subst hx2;go_wp2_with fail
    go_roundw
    case rel=>exact⟨k+1,r+1,u,acc,⟨by go_num,by omega,by omega,gO.far (by simp) _,gR.set_ _,guO,guR,own_setCell_far gown guR _,gb.setCell (by show _<=O+1;omega) _,Hac.out,Hall'.out⟩⟩
    case measure=>simp[intOf];omega
   ·have hxb:(x==0)=false:=by rw[beq_eq_false_iff_ne];exact hx2
    have hac:(acc++low r++[x+1])++pk 0 (l.drop (k+1))=pk 0 l:=by
     rw[<-Hacc.out,drop_at l k x Hx.out]
     conv=>rhs;rw[pk,if_neg hx2]
     simp
    have Hac:=Lib.hid hac;have hlow:=length_low r;clear hac;go_wp2_with fail
    refine(flush_any (O+1) O r w.heap.size u acc wr gb.size (by omega) (by omega) gR gO (by omega) guR guO (by omega) (by omega) gown).mono ?_;rintro e w2 ⟨rfl,hb2,u2,qR,qO,quR,quO,qown⟩;have qO1:=qO.cell;have qO3:=qO.frozen;clear hR1 hR3;go_wp2_with (at_builtin;(refine append1 qown (by simp;omega) (Nat.le_trans gb.size hb2.size) ?_);intro A1 n1 c1 w3 hn1 hown1 hb3 hg3 hat;have gO2:=qO.grown hg3 quO;have hO1':=gO2.cell;have hO3':=gO2.frozen)
    have rO:=qO.lt;have rR:=qR.lt;have gvO:Value.ownBlock (.slice A1 n1 c1)≠some O:=by
     rcases hat with e|⟨g,e,hg⟩
     ·rw[e];exact quO
     ·rw[e];intro h;simp at h;omega
    have gvR:Value.ownBlock (.slice A1 n1 c1)≠some (O+1):=by
     rcases hat with e|⟨g,e,hg⟩
     ·rw[e];exact quR
     ·rw[e];intro h;simp at h;omega
    go_roundw
    case rel=>exact⟨k+1,0,_,_,⟨by go_num,by omega,by omega,gO2.set_ _,(qR.grown hg3 quR).far (by simp) _,gvO,gvR,own_setCell_far (a:=⟨O,0,none⟩) hown1 gvO _,((gb.trans hb2).trans hb3).setCell (by show _<=O;omega) _,Hac.out,Hall'.out⟩⟩
    case measure=>simp[intOf];omega
  ·have hac:acc++low r=pk 0 l:=by
    rw[<-Hacc.out,List.drop_of_length_le (by have:=Hln.out;omega)];rfl
   have hlow:=length_low r;have Hac:=Lib.hid hac;clear hac;go_wp2_with fail
   refine(flush_any (O+1) O r w.heap.size u acc wr gb.size (by omega) (by omega) gR gO (by omega) guR guO (by omega) (by omega) gown).mono ?_;rintro e w2 ⟨rfl,hb2,u2,qR,qO,quR,quO,qown⟩;have qO1:=qO.cell;clear hR1 hR3;go_wp2_with fail
   try rw[Exit.noGoto_ret]
   go_ret2
   have hall:l.all okRank=true:=by
    have:=Hall.out;rwa [List.take_of_length_le (by have:=Hln.out;omega)] at this
   unfold packE packL;rw[if_pos hall,if_pos hall,<-Hac.out];exact⟨_,rfl,qown,gb.trans hb2⟩
end Zr
end Go.Proofs.YtjligbmickfbdaaGreat
