/- varveref08.Best, plainly: its rows, their bounds; counting. varveref08: power, Used, Sum, Check (lengths that may be). varveref08.Best. varveref09: Words, Word. varveref09.Word. varveref10.Bits. varveref11.Counts: symbols that may be. varveref11: Bits, Encode: symbols that may be. -/
import Derived.Test.YtjligbmickfbdaaGreatBe50
import Derived.Test.YtjligbmickfbdaaGreatBe14
import Derived.Test.YtjligbmickfbdaaGreatBe15
import Derived.Test.YtjligbmickfbdaaGreatBe37
import Derived.Test.YtjligbmickfbdaaGreatBe48
import Derived.Test.YtjligbmickfbdaaGreatBe38
import Derived.Deep.RegionHeld3
import Derived.Test.YtjligbmickfbdaaGreatBe39
import Derived.Test.YtjligbmickfbdaaGreatBe03
import Derived.Deep.LoopGhost
import Derived.BigRegion
namespace Go.Proofs.YtjligbmickfbdaaGreat
namespace Rf
open Ln St
theorem leaves_same {F:List Thing} (hF:∀x∈F,0<=x.2) (i:Nat):F.map (toR F i)=F.map (toR F 0) :=
 List.map_congr_left fun x hx=>by rw[toR_leaf F i (hF x hx),toR_leaf F 0 (hF x hx)]
def Tr (F:List Thing) (i:Nat):List ThR:=(rowsL F i).map (toR F i)
theorem next_row {F:List Thing} (h:Ln.Leaves F) (i:Nat):nextR (Tr F i) (F.map (toR F 0))=Tr F (i+1):=by
 rw[<-leaves_same h.sym (i+1)];exact nextR_eq F i h.sym h.srt (rows_srt h i)
theorem tr_len {F:List Thing} (i:Nat):(Tr F i).length<=2*F.length:=by
 unfold Tr;rw[List.length_map];rcases length_rows (F:=F) i with h|h
 ·generalize (F.length-1)/2^i=q at h
  omega
 ·have:F=[]:=List.eq_nil_of_length_eq_zero h
  subst this;have:∀i,rowsL [] i=[]:=by
   intro i
   induction i with
   |zero=>rfl
   |succ i ih=>rw[rowsL,ih,mrg_nil_left];rfl
  rw[this];simp
theorem tr_full {F:List Thing} (h2:2<=F.length) (h:F.length<=257):2*F.length-2<=(Tr F 14).length:=by
 unfold Tr;rw[List.length_map];rcases length_rows (F:=F) 14 with h1|h1
 ·have:(F.length-1)/2^14=0:=Nat.div_eq_of_lt (by omega)
  omega
 ·omega
theorem Bd.mono {M S N M' S':Nat} {T:List ThR} (h:Bd M S N T) (h1:M<=M') (h2:S<=S'):Bd M' S' N T:=fun y hy=>by
 obtain⟨a,b,c,d⟩:=h y hy;exact⟨a,by omega,by omega,d⟩
theorem bd_put {M S N:Nat} {x:ThR}:∀{r:List ThR},Bd M S N r->Bd M S N [x]->Bd M S N (putR x r)
 | [],_,hx=>hx
 |y::r,h,hx=>by
  rw[putR];split
  ·intro z hz
   rcases List.mem_cons.1 hz with hz|hz
   ·exact h z (by simp[hz])
   ·exact bd_put (fun u hu=>h u (by simp[hu])) hx z hz
  ·intro z hz
   rcases List.mem_cons.1 hz with hz|hz
   ·exact hx z (by simp[hz])
   ·exact h z hz
theorem bd_puts {M S N:Nat}:∀{xs r:List ThR},Bd M S N xs->Bd M S N r->Bd M S N (putsR xs r)
 | [],_,_,h=>h
 |x::xs,r,hx,h=>by
  have:=bd_puts (xs:=xs) (r:=putR x r) (fun z hz=>hx z (by simp[hz])) (bd_put h fun z hz=>hx z (by simp at hz;simp[hz]));unfold putsR at *
  rw[List.foldl_cons];exact this
theorem bd_pair {M S N:Nat}:∀{T:List ThR},Bd M S N T->Bd (2*M) (2*S) N (pairR T)
 | [],_=>fun z hz=>by simp[pairR] at hz
 | [x],_=>fun z hz=>by simp[pairR] at hz
 |x::y::r,h=>by
  rw[pairR];intro z hz;rcases List.mem_cons.1 hz with hz|hz
  ·subst hz
   obtain⟨a1,a2,a3,a4⟩:=h x (by simp);obtain⟨b1,b2,b3,b4⟩:=h y (by simp);refine⟨by show 0<=x.1+y.1;omega,by show x.1+y.1<=_;omega,by show(x.2.1++y.2.1).length<=_;rw[List.length_append];omega,fun s hs=>?_⟩;rcases List.mem_append.1 hs with hs|hs
   ·exact a4 s hs
   ·exact b4 s hs
  ·exact bd_pair (fun u hu=>h u (by simp[hu])) z hz
theorem bd_next {M S N:Nat} {T L:List ThR} (hT:Bd M S N T) (hL:Bd M S N L):Bd (2*M) (2*S) N (nextR T L) :=
 bd_puts (hL.mono (by omega) (by omega)) (bd_puts (bd_pair hT) fun z hz=>by simp at hz)
theorem bd_tr {F:List Thing} (h:Ln.Leaves F) (hb:Bd 1000000 1 257 (F.map (toR F 0))):∀i,Bd (1000000*2^i) (2^i) 257 (Tr F i)
 |0=>by simpa[Tr,rowsL] using hb
 |i+1=>by
  have h1:=bd_tr h hb i;have hp:1<=2^i:=Nat.one_le_two_pow;have h2:=bd_next h1 (hb.mono (by omega) hp);rw[next_row h] at h2;exact h2.mono (by rw[Nat.pow_succ];omega) (by rw[Nat.pow_succ];omega)
set_option maxRecDepth 100000 in
theorem bd_tr14 {F:List Thing} (h:Ln.Leaves F) (hb:Bd 1000000 1 257 (F.map (toR F 0))) (i:Nat) (hi:i<=14):Bd 100000000000 100000 257 (Tr F i):=by
 have hp:2^i<=2^14:=Nat.pow_le_pow_right (by omega) hi;exact(bd_tr h hb i).mono (by omega) (by omega)
def flT (T:List ThR) (m:Nat):List Int:=(T.take m).flatMap fun x=>x.2.1
theorem flT_eq (F:List Thing) (i m:Nat):flT (Tr F i) m=flatR F i m:=by
 unfold flT Tr flatR;rw[<-List.map_take,List.flatMap_map];rfl
theorem flT_succ {T:List ThR} {m:Nat} {y:ThR} (h:T[m]? =some y):flT T (m+1)=flT T m++y.2.1:=by
 unfold flT;rw[List.take_add_one,h,List.flatMap_append];simp
set_option maxRecDepth 100000 in
theorem flT_len {M N:Nat} {T:List ThR} (h:Bd M 100000 N T) (m:Nat):(flT T m).length<=m*100000:=by
 induction m with
 |zero=>simp[flT]
 |succ m ih =>
  rcases ht:T[m]? with _|y
  ·unfold flT at *
   rw[List.take_add_one,ht];simp only[Option.toList_none,List.append_nil];exact Nat.le_trans ih (Nat.mul_le_mul_right _ (Nat.le_succ m))
  ·rw[flT_succ ht,List.length_append,Nat.succ_mul]
   exact Nat.add_le_add ih (h y (List.mem_of_getElem? ht)).2.2.1
theorem length_cntS (xs:List Int):∀o:List Int,(cntS o xs).length=o.length:=by
 induction xs with
 |nil=>intro o;rfl
 |cons x xs ih=>intro o;show(cntS (inc o x.toNat) xs).length=_;rw[ih,length_inc]
theorem cntS_bd (n:Nat) (xs:List Int):∀x∈cntS (List.replicate n 0) xs,0<=x/\x<=(xs.length:Int):=by
 have:=Hf.foldl_bd xs (List.replicate n 0) 0 (by omega) (fun x hx=>by rw[List.mem_replicate] at hx;omega);intro x hx;have h:=this x hx;omega
theorem cntS_snoc (o xs:List Int) (s:Int):cntS o (xs++[s])=(cntS o xs).set s.toNat ((cntS o xs).getD s.toNat 0+1):=by
 rw[cntS_append];rfl
theorem bd_first {l:List Int} (hl:l.length<=257) (h:∀x∈l,0<=x/\x<=1000000):Bd 1000000 1 257 ((stab wt (lv 0 l)).map (toR (stab wt (lv 0 l)) 0)):=by
 intro y hy;obtain⟨x,hx,rfl⟩:=List.mem_map.1 hy;obtain⟨i,hi,rfl,hp⟩:=lv_of_mem l 0 x ((stab_perm wt (lv 0 l)).mem_iff.1 hx);rw[toR_leaf _ 0 (by show(0:Int)<=_;omega)];have:=h _ (List.getElem_mem hi);refine⟨this.1,this.2,by simp,fun s hs=>?_⟩;simp at hs
 subst hs;omega
end Rf
end Go.Proofs.YtjligbmickfbdaaGreat
namespace Go.Proofs.YtjligbmickfbdaaGreat
namespace Rf
open Go.RowKit Cn
def p2 (n:Nat):Nat:=2^n
set_option maxHeartbeats 1600000 in
set_option maxRecDepth 100000 in
theorem power_any (n:Nat) (w:World) (hn:n<=15):Calls Tryz.prog 133 #[.int .i64 (n:Int)] w fun e w'=>e=.returned (.int .i64 (p2 n:Int))/\w=w':=by
 go_enter Tryz.func133, Tryz.ntmps133
 go_wp2_with fail
 go_loopg [3,4] n (fun kx s3 s4 wr=>∃(k:Nat),s4=.int .i64 (k:Int)/\s3=.int .i64 (p2 k:Int)/\k<=n/\n-k<=kx/\Aside (w=wr))
 case atStart=>exact⟨0,rfl,rfl,by omega,by omega,rfl⟩
 case round =>
  obtain⟨k,rfl,rfl,hk,hkx,hw⟩:=hrel;obtain rfl:=hw.out;have hb:p2 k<=32768:=Nat.pow_le_pow_right (n:=2) (j:=15) (by omega) (by omega);by_cases hlt:k<n
  ·have hs:Hid (p2 (k+1)=2*p2 k):=by show _=_;unfold p2;rw[Nat.pow_succ];omega
   generalize p2 k=P at *
   go_wp2_with fail
   go_roundg (n-(k+1))
   case measure=>omega
   case rel=>exact⟨k+1,by go_num,by rw[hs.out];go_num,by omega,by omega,rfl⟩
  ·obtain rfl:k=n:=by omega
   go_wp2_with fail
   go_ret
   exact⟨rfl,rfl⟩
set_option maxHeartbeats 1600000 in
set_option maxRecDepth 100000 in
theorem refused_any (A:Option Addr) (n c:Nat) (l:List Int) (w:World) (hn:n<=1000000) (hrd:Rd w w.heap.size 1 A n (l.map (Value.int .i64))) :
  Calls Tryz.prog 153 #[.slice A n c] w fun e w'=>e=.returned (.int .i64 (us l:Int))/\w=w':=by
 have hln:l.length=n:=by simpa using hrd.len
 have HL:=Lib.hid hln;clear hln
 go_enter Tryz.func153, Tryz.ntmps153
 go_wp2_with fail
 go_loopg [3,4] n (fun kx s3 s8 wr=>∃(k:Nat),s8=.int .i64 (k:Int)/\s3=.int .i64 (us (l.take k):Int)/\k<=n/\n-k<=kx/\w=wr)
 case atStart=>exact⟨0,rfl,rfl,by omega,by omega,rfl⟩
 case round =>
  obtain⟨k,rfl,rfl,hk,hkx,rfl⟩:=hrel;have hub:us (l.take k)<=1000000:=by
   unfold us;exact Nat.le_trans (List.countP_le_length) (by simp;omega)
  by_cases hlt:k<n
  ·obtain⟨ad,x,rfl,had,hx,hcell⟩:=hrd.int1 hlt
   have hkl:k<l.length:=by have:=HL.out;omega
   rw[List.getElem?_eq_getElem hkl,Option.some.injEq] at hx;have hst:=us_take l k hkl;rw[hx] at hst;have HST:=Lib.hid hst;clear hst hx hkl;by_cases h0:0<x
   ·go_wp2_with fail
    go_roundg (n-(k+1))
    case measure=>omega
    case rel=>exact⟨k+1,by go_num,by rw[HST.out,if_pos h0];go_num,by omega,by omega,by first|rfl|trivial⟩
   ·go_wp2_with fail
    go_roundg (n-(k+1))
    case measure=>omega
    case rel=>exact⟨k+1,by go_num,by rw[HST.out,if_neg (by omega)];rfl,by omega,by omega,by first|rfl|trivial⟩
  ·have e:us (l.take k)=us l:=by rw[List.take_of_length_le (by have:=HL.out;omega)]
   have HE:=Lib.hid e;clear e;go_wp2_with fail
   go_ret
   refine⟨?_,rfl⟩;rw[<-HE.out];rfl
set_option maxHeartbeats 3200000 in
set_option maxRecDepth 100000 in
theorem refsum_any (A:Option Addr) (n c:Nat) (l:List Int) (w:World) (hn:n<=257) (hl:∀x∈l,0<=x/\x<=15) (hrd:Rd w w.heap.size 1 A n (l.map (Value.int .i64))) :
  Calls Tryz.prog 152 #[.slice A n c] w fun e w'=>e=.returned (.int .i64 (((l.map kr).sum:Nat):Int))/\w=w':=by
 have hln:l.length=n:=by simpa using hrd.len
 have HL:=Lib.hid hln;have HP:=Lib.hid (fun n w hn=>power_any n w hn);clear hln
 go_enter Tryz.func152, Tryz.ntmps152
 go_wp2_with fail
 go_loopg [3,4] n (fun kx s3 s8 wr=>∃(k:Nat),s8=.int .i64 (k:Int)/\s3=.int .i64 (sk l k:Int)/\k<=n/\n-k<=kx/\w=wr)
 case atStart=>exact⟨0,rfl,rfl,by omega,by omega,rfl⟩
 case round =>
  obtain⟨k,rfl,rfl,hk,hkx,rfl⟩:=hrel;have hub:sk l k<=16384*257:=by
   unfold sk;exact Nat.le_trans (kr_sum_le _) (Nat.mul_le_mul_left _ (by simp;omega))
  by_cases hlt:k<n
  ·obtain⟨ad,x,rfl,had,hx,hcell⟩:=hrd.int1 hlt
   have hkl:k<l.length:=by have:=HL.out;omega
   rw[List.getElem?_eq_getElem hkl,Option.some.injEq] at hx;have hst:=kr_take l k hkl;have hxb:=hl _ (List.getElem_mem hkl);rw[hx] at hst hxb;have HST:=Lib.hid hst;obtain⟨y,rfl⟩:=Int.eq_ofNat_of_zero_le hxb.1;have hy:y<=15:=by omega
   clear hst hx hkl hxb;generalize sk l k=S at *
   by_cases h0:0<y
   ·have hkr:Hid (kr (y:Int)=p2 (15-y)):=by show _=_;unfold kr;rw[if_pos (by omega)];rfl
    have hb:p2 (15-y)<=32768:=Nat.pow_le_pow_right (n:=2) (j:=15) (by omega) (by omega);have hpo:=HP.out (15-y) w (by omega);rw[show((15-y:Nat):Int)=15-(y:Int) by omega] at hpo;have HPO:=Lib.hid hpo;generalize p2 (15-y)=R at *
    have g1: ¬ (y:Int)<0:=by omega
    have g2: ¬ (y:Int)>15:=by omega
    have g3:(y:Int)>0:=by omega
    clear hpo;go_wp2_with (go_at_call 133;refine HPO.out.mono ?_;rintro e1 w1 ⟨rfl,rfl⟩)
    go_roundg (n-(k+1))
    case measure=>omega
    case rel=>exact⟨k+1,by go_num,by rw[HST.out,hkr.out];go_num,by omega,by omega,by first|rfl|trivial⟩
   ·obtain rfl:y=0:=by omega
    have hkr:Hid (sk l (k+1)=S):=by show _=_;rw[HST.out];rfl
    have hcell:w.cell? (ad.add k)=some (.int .i64 0):=hcell;go_wp2_with fail
    go_roundg (n-(k+1))
    case measure=>omega
    case rel=>exact⟨k+1,by go_num,by rw[hkr.out],by omega,by omega,by first|rfl|trivial⟩
  ·have e:sk l k=(l.map kr).sum:=by unfold sk;rw[List.take_of_length_le (by have:=HL.out;omega)]
   have HE:=Lib.hid e;clear e;go_wp2_with fail
   go_ret
   refine⟨?_,rfl⟩;rw[<-HE.out];rfl
set_option maxHeartbeats 3200000 in
set_option maxRecDepth 100000 in
theorem refcheck_any (A:Option Addr) (n c:Nat) (l:List Int) (w:World) (hn:n<=257) (hl:∀x∈l,0<=x/\x<=15) (hs:sumOk l=true) (hrd:Rd w w.heap.size 1 A n (l.map (Value.int .i64))) :
  Calls Tryz.prog 135 #[.slice A n c] w fun e w'=>e=.returned (.int .i64 0)/\w=w':=by
 have hS:=refsum_any A n c l w hn hl hrd;have hU:=refused_any A n c l w (by omega) hrd;have HP15:=Lib.hid (show Calls Tryz.prog 133 #[.int .i64 15] w fun e w'=>e=.returned (.int .i64 32768)/\w=w' from power_any 15 w (by omega));have HP14:=Lib.hid (show Calls Tryz.prog 133 #[.int .i64 14] w fun e w'=>e=.returned (.int .i64 16384)/\w=w' from power_any 14 w (by omega));unfold sumOk half at hs;simp only[Bool.or_eq_true,Bool.and_eq_true,decide_eq_true_eq] at hs;have g1: ¬ (n:Int)>257:=by omega
 rcases hs with (h|h)|h
 ·rw[h] at hS
  have HS:=Lib.hid hS;clear hS hU h
  go_enter Tryz.func135, Tryz.ntmps135
  go_wp2_with (go_at_call 152;refine HS.out.mono ?_;rintro e1 w1 ⟨rfl,rfl⟩)
  go_ret
  exact⟨rfl,rfl⟩
 ·rw[h] at hS
  have HS:=Lib.hid hS;clear hS hU h
  go_enter Tryz.func135, Tryz.ntmps135
  go_wp2_with (first|(go_at_call 152;refine HS.out.mono ?_;rintro e1 w1 ⟨rfl,rfl⟩)|(go_at_call 133;refine HP15.out.mono ?_;rintro e2 w2 ⟨rfl,rfl⟩))
  go_ret
  exact⟨rfl,rfl⟩
 ·rw[h.2] at hS
  rw[h.1] at hU;have HS:=Lib.hid hS;have HU:=Lib.hid hU;clear hS hU h
  go_enter Tryz.func135, Tryz.ntmps135
  go_wp2_with (first|(go_at_call 152;refine HS.out.mono ?_;rintro e1 w1 ⟨rfl,rfl⟩)|(go_at_call 153;refine HU.out.mono ?_;rintro e3 w3 ⟨rfl,rfl⟩)|(go_at_call_of 133 (15:Int);refine HP15.out.mono ?_;rintro e2 w2 ⟨rfl,rfl⟩)|(go_at_call_of 133 (14:Int);refine HP14.out.mono ?_;rintro e2 w2 ⟨rfl,rfl⟩))
  go_ret
  exact⟨rfl,rfl⟩
end Rf
end Go.Proofs.YtjligbmickfbdaaGreat
namespace Go.Proofs.YtjligbmickfbdaaGreat
namespace Rf
open Go.RowKit Ln St
open Bt (Frm)
open Cn (rd_frm)
theorem far_of {w:World}:∀{R:List RT} {T:List ThR},Tins w R T-> ∀z∈R,Far w.heap.size z
 | [],_,_,z,hz=>by simp at hz
 |x::R,y::T,h,z,hz=>by
  rcases List.mem_cons.1 hz with e|hz
  ·subst e
   intro hn ad e;obtain⟨ad',e',hb,_⟩:=h.1.sy.rd.cells hn;rw[e] at e';cases e'
   omega
  ·exact far_of h.2 z hz
structure RowQ (q:Nat) (w0 w:World) (v:Value) (T:List ThR):Prop where
 ex:∃A c R,v=.slice A T.length c/\R.length=T.length/\ArgV w 3 A T.length c (fT R)/\Tins w R T/\(∀z∈R,Far q z)/\(0<T.length-> ∀ad,A=some ad->ad.block≠q)
 bel:Below w0.heap.size w0 w
theorem rowQ_first {w1 w:World} {A:Option Addr} {n c:Nat} {R:List RT} {T:List ThR} (ha:ArgV w1 3 A n c (fT R)) (ht:Tins w1 R T) (hn:n=T.length) (hb:Below w1.heap.size w1 w):RowQ w1.heap.size w w (.slice A n c) T:=by
 subst hn;refine⟨⟨A,c,R,rfl,ht.len,ha.ext hb,ht.ext hb,far_of ht,fun hp ad e=>?_⟩,Below.refl _ _⟩;obtain⟨ad',e',hlt,_⟩:=ha.rd.cells hp;rw[e] at e';cases e'
 omega
theorem rowQ_next {q:Nat} {w0 w w':World} {v:Value} {T:List ThR} (h:OwnHQ q w' w.heap.size v T) (hq:q<w.heap.size) (hb:Below w0.heap.size w0 w) (hb2:Below w.heap.size w w'):RowQ q w0 w' v T:=by
 obtain⟨A,c,R,rfl,hl,ha,ht,hf⟩:=h.arg;refine⟨⟨A,c,R,rfl,hl,ha,ht,hf,fun _ ad e=>?_⟩,hb.trans (hb2.mono hb.size)⟩;subst e;obtain⟨R',h1,_⟩:=h;have:=(World.ownsRow.lt h1 ad.block rfl).1;omega
theorem rdT_cell {w:World} {B:Nat} {ad:Addr} {n k:Nat} {x:RT} {l:List RT} (h:Rd w B 3 (some ad) n (fT l)) (hk:l[k]? =some x):w.cell? ⟨(ad.add (k*3)).block,(ad.add (k*3)).off+1,none⟩=some (.slice x.2.1.1 x.2.1.2.1 x.2.1.2.2):=by
 have hn:0<n:=by
  have:=(List.getElem?_eq_some_iff.1 hk).1;have:=h.len;rw[fT_len] at this;omega
 obtain⟨ad',e,_,hc⟩:=h.cells hn;cases e
 have c1:=hc _ _ (fT_at l k x hk).2.1;rw[<-add_add] at c1;exact c1
set_option maxHeartbeats 12800000 in
set_option maxRecDepth 100000 in
theorem refbest_any (A:Option Addr) (n c:Nat) (l:List Int) (w:World) (hn:n<=257) (hok:∀x∈l,0<=x/\x<=1000000) (hrd:Rd w w.heap.size 1 A n (l.map (Value.int .i64))) (hn2:n=257) :
  Calls Tryz.prog 93 #[.slice A n c,.int .i64 15] w fun e w'=>∃v,e=.returned (.tuple #[v,.int .i64 0])/\Own w' w.heap.size v (bestL l 15)/\Below w.heap.size w w':=by
 have mixed:Tryz.prog.follows .mixedOrders=true:=by kernel_rfl
 have hln:l.length=n:=by simpa using hrd.len
 have HL:=Lib.hid hln;have HR:=Lib.hid hrd;have HOK:=Lib.hid hok;have HN2:=Lib.hid hn2;have HFI:=Lib.hid (first_any A n c l w hn (fun x hx=>(hok x hx).1) hrd);have HP15:=Lib.hid (fun w:World=>show Calls Tryz.prog 133 #[.int .i64 15] w fun e w'=>e=.returned (.int .i64 32768)/\w=w' from power_any 15 w (by omega));clear hln hrd hok hn2
 go_enter Tryz.func93, Tryz.ntmps93
 go_wp2_with fail
 go_loopg [6] n (fun kx s6 wr=>∃(i:Nat),s6=.int .i64 (i:Int)/\i<=n/\n-i<=kx/\Aside (w=wr))
 case atStart=>exact⟨0,by go_num,by omega,by omega,rfl⟩
 case round =>
  obtain⟨i,rfl,hi,hik,hw⟩:=hrel;obtain rfl:=hw.out;by_cases hin:i<n
  ·obtain⟨ad,x,rfl,had,hx,hcell⟩:=HR.out.int1 hin
   have hil:i<l.length:=by have:=HL.out;omega
   rw[List.getElem?_eq_getElem hil,Option.some.injEq] at hx;have hxb:=HOK.out _ (List.getElem_mem hil);rw[hx] at hxb;have g1: ¬ x<0:=by omega
   have g2: ¬ x>1000000:=by omega
   clear hx hxb;go_wp2_with fail
   go_roundg (n-(i+1))
   case measure=>omega
   case rel=>exact⟨i+1,by go_num,by omega,by omega,rfl⟩
  ·have hlen:=Lib.hid (rowK_len l l.length)
   have hrow:=rowK_all l;have HF:=Lib.hid (syms_lv l);have hFl:(stab wt (lv 0 l)).length<=257:=by rw[length_stab];have:=lv_len l 0;have:=HL.out;omega
   have HBF:=Lib.hid (bd_first (by have:=HL.out;omega) HOK.out);have HBE:Hid (bestL l 15=if(stab wt (lv 0 l)).length<2 then(stab wt (lv 0 l)).foldl (fun o x=>o.set x.2.toNat 1) (List.replicate l.length 0) else takenP (stab wt (lv 0 l)) 14 (2*(stab wt (lv 0 l)).length-2) (List.replicate l.length 0)):=rfl;generalize stab wt (lv 0 l)=F at *
   have HROW:=Lib.hid hrow;clear hrow;have hd1:decide ((F.length:Int)>32768)=false:=decide_eq_false (by omega);rcases Nat.lt_or_ge F.length 2 with hfew|hmany
   ·rcases Nat.eq_zero_or_pos F.length with hz|hpos
    ·have hF0:F=[]:=List.eq_nil_of_length_eq_zero hz
     subst hF0;have HB2:Hid (bestL l 15=List.replicate n 0):=by show _=_;rw[HBE.out,HL.out];rfl
     go_wp2_with (first|(go_at_call 132;refine HFI.out.mono ?_;rintro e1 w1 ⟨v1,rfl,hown1,hb1⟩;rw[HROW.out] at hown1;obtain⟨A1,c1,R1,rfl,hR1,harg1,hti1⟩:=hown1.arg;rw[List.length_map] at hR1 harg1 ⊢;clear hown1)|(go_at_call 133;refine(HP15.out _).mono ?_;rintro e2 w2 ⟨rfl,rfl⟩)|(at_make;(refine make1 (n:=n) (by omega) hb1.size ?_);intro w3 hown3 hg3;have hb3:Below w1.heap.size w1 w3:=(Below.refl _ _).grown hg3 (Nat.le_refl _) (by simp)))
     go_ret2
     exact⟨_,rfl,by rw[HB2.out];exact hown3,hb1.trans (hb3.mono hb1.size)⟩
    ·obtain⟨x,hFx⟩:∃x,F=[x]:=List.length_eq_one_iff.1 (by omega)
     subst hFx;obtain⟨x1,x2⟩:=x;have hx2:=HF.out.sym (x1,x2) (by simp);have hlt:=HF.out.lt (x1,x2) (by simp);simp only at hx2 hlt;obtain⟨s,rfl⟩:=Int.eq_ofNat_of_zero_le hx2;have hs:s<n:=by have:=HL.out;rw[Int.toNat_natCast] at hlt;omega
     have HB2:Hid (bestL l 15=(List.replicate n 0).set s 1):=by show _=_;rw[HBE.out,HL.out];rfl
     have HTI:Hid (∀(w:World) (a:RT),Tin w a (toR [(x1,(s:Int))] 0 (x1,(s:Int)))->ArgV w 1 a.2.1.1 a.2.1.2.1 a.2.1.2.2 (vI [(s:Int)])):=fun w a h=>h.sy
     have HM1:Hid (∀(w:World) (B:Option Addr) (m k:Nat),ArgV w 1 B m k (vI [(s:Int)])->m=1):=fun w B m k h=>by
      have:=h.rd.len;simp[vI] at this
      omega
     have HS1:Hid (∀(w w':World) (ads:Addr) (k:Nat),ArgV w 1 (some ads) 1 k (vI [(s:Int)])->Below w.heap.size w w'->w'.cell? ads=some (.int .i64 (s:Int))):=fun w w' ads k h hb=>by
      obtain⟨ad',e,_,hc⟩:=(h.ext hb).rd.cells (by omega);cases e
      exact hc 0 _ rfl
     clear hx2 hlt;go_wp2_with (first|(go_at_call 132;refine HFI.out.mono ?_;rintro e1 w1 ⟨v1,rfl,hown1,hb1⟩;rw[HROW.out] at hown1;obtain⟨A1,c1,R1,rfl,hR1,harg1,hti1⟩:=hown1.arg;rw[List.length_map] at hR1 harg1 ⊢;clear hown1;obtain⟨ad1,rfl⟩:=harg1.some (by simp);obtain⟨a,hRa⟩:∃a,R1=[a]:=List.length_eq_one_iff.1 (by simpa using hR1);subst hRa;obtain⟨a1,⟨Aa,ma,ka⟩,fa⟩:=a;have hti:ArgV w1 1 Aa ma ka (vI [(s:Int)]):=HTI.out w1 _ hti1.1;clear hti1;obtain rfl:ma=1:=HM1.out w1 Aa ma ka hti;obtain⟨ads,hads⟩:=hti.some (by omega);subst hads)|(go_at_call 133;refine(HP15.out _).mono ?_;rintro e2 w2 ⟨rfl,rfl⟩)|(at_make;(refine make1 (n:=n) (by omega) hb1.size ?_);intro w3 hown3 hg3;have hb3:Below w1.heap.size w1 w3:=(Below.refl _ _).grown hg3 (Nat.le_refl _) (by simp);obtain⟨-,cc1,-⟩:=argT_cell (k:=0) harg1 hb3 rfl;have hsy:w3.cell? ads=some (.int .i64 (s:Int)):=HS1.out w1 w3 ads ka hti hb3;have cc1:w3.cell? ⟨ad1.block,ad1.off+1,none⟩=some (.slice (some ads) 1 ka):=cc1;have hoc:=hown3.cell (k:=s) (x:=0) (by rw[List.getElem?_replicate,if_pos hs]);have hof:=hown3.frozen (k:=s);have HOW:Aside _:=Own.put2 (k:=s) (And.intro hown3 (hb1.trans (hb3.mono hb1.size))) 1))
     go_ret2
     exact⟨_,rfl,by rw[HB2.out];exact HOW.out⟩
   ·have hnf: ¬ (F.length:Int)=1:=by omega
    have hnf2:decide ((F.length:Int)<2)=false:=decide_eq_false (by omega);have hnf3:((F.length:Int)==1)=false:=by rw[beq_eq_false_iff_ne];exact hnf
    go_wp2_with (first|(go_at_call 132;refine HFI.out.mono ?_;rintro e1 w1 ⟨v1,rfl,hown1,hb1⟩;rw[HROW.out] at hown1;obtain⟨A1,c1,R1,rfl,hR1,harg1,hti1⟩:=hown1.arg;rw[List.length_map] at hR1 harg1 ⊢;clear hown1)|(go_at_call 133;refine(HP15.out _).mono ?_;rintro e2 w2 ⟨rfl,rfl⟩)|(at_make;(refine make1 (n:=n) (by omega) hb1.size ?_);intro w3 hown3 hg3;have hb3:Below w1.heap.size w1 w3:=(Below.refl _ _).grown hg3 (Nat.le_refl _) (by simp)))
    have hgo:w1.heap.size<w3.heap.size:=(World.ownsRow.lt hown3 _ rfl).2;have HR0:Aside (RowQ w1.heap.size w3 w3 (.slice A1 F.length c1) (Tr F 0)):=rowQ_first harg1 (show Tins w1 R1 (Tr F 0) from hti1) (by simp[Tr,rowsL]) hb3;have HA1:=Lib.hid (harg1.ext hb3);have HT1:=Lib.hid (hti1.ext hb3);have HF1:=Lib.hid (far_of hti1);have HO3:Aside (Own w3 w.heap.size (.slice (some ⟨w1.heap.size,0,none⟩) n n) (List.replicate n 0)/\Below w.heap.size w w3):=⟨hown3,hb1.trans (hb3.mono hb1.size)⟩
    obtain⟨go,hgoe⟩:∃go,go=w1.heap.size:=⟨_,rfl⟩
    rw[<-hgoe] at hgo HR0 HF1 HO3;rw[<-hgoe];have HNR:Hid (∀i,nextR (Tr F i) (F.map (toR F 0))=Tr F (i+1)):=fun i=>next_row HF.out.toLeaves i
    have HBD:Hid (∀i,i<=14->Bd 100000000000 100000 257 (Tr F i)):=fun i hi=>bd_tr14 HF.out.toLeaves HBF.out i hi
    have HTL:Hid (∀i,(Tr F i).length<=514):=fun i=>by have:=tr_len (F:=F) i;omega
    clear harg1 hti1 hown3 hg3 hb1 hb3 hgoe;go_loopg [9,10] 15 (fun kx s9 s10 wr=>∃(i:Nat),s10=.int .i64 ((i:Int)+1)/\i<=14/\15-i<=kx/\Aside (RowQ go w3 wr s9 (Tr F i)))
    case atStart=>exact⟨0,by go_num,by omega,by omega,HR0.out⟩
    case round =>
     clear HR0;obtain⟨i2,rfl,hi2,hik2,H⟩:=hrel;obtain⟨⟨A2,c2,R2,rfl,hR2,ha2,ht2,hf2,hq2⟩,hbl⟩:=H.out;by_cases h14:i2<14
     ·have hgw:go<wr.heap.size:=Nat.lt_of_lt_of_le hgo hbl.size
      have HN:=Lib.hid (next_any go A2 A1 (Tr F i2).length c2 F.length c1 R2 R1 (Tr F i2) (F.map (toR F 0)) wr (by have:=HTL.out i2;omega) (by omega) ha2 ht2 (HA1.out.ext hbl) (HT1.out.ext hbl) hgw hf2 HF1.out (HBD.out i2 (by omega)) (show Bd 100000000000 100000 257 (F.map (toR F 0)) from HBD.out 0 (by omega)));have HB:=Lib.hid hbl;have HGW:=Lib.hid hgw;clear ha2 ht2 hf2 hq2 hbl H hgw;go_wp2_with (go_at_call 134;refine HN.out.mono ?_;rintro e4 w4 ⟨v4,rfl,hown4,hb4⟩)
      have HX:Aside (RowQ go w3 w4 v4 (Tr F (i2+1))):=rowQ_next (by rw[<-HNR.out];exact hown4) HGW.out HB.out hb4;clear hown4 hb4;go_roundg (15-(i2+1))
      case measure=>omega
      case rel=>exact⟨i2+1,by go_num,by omega,by omega,HX.out⟩
     ·obtain rfl:i2=14:=by omega
      have hfull:=tr_full hmany hFl;have HBT:=Lib.hid (HBD.out 14 (Nat.le_refl _));have HO5:Aside (Own wr w.heap.size (.slice (some ⟨go,0,none⟩) n n) (List.replicate n 0)/\Below w.heap.size w wr):=⟨own_below HO3.out.1 hbl (Nat.le_refl _),HO3.out.2.trans (hbl.mono HO3.out.2.size)⟩
      have HEND:Hid (cntS (List.replicate n 0) (flT (Tr F 14) (2*F.length-2))=bestL l 15):=by
       show _=_
       rw[HBE.out,if_neg (by omega),flT_eq,taken_eq F HF.out.sym,HL.out]
      obtain⟨N2,hN2⟩:∃N2,N2=2*F.length-2:=⟨_,rfl⟩
      rw[<-hN2] at HEND hfull;have hN2I:2*(F.length:Int)-2=(N2:Int):=by omega
      have hN2b:N2<=600:=by omega
      have HR2:=Lib.hid hR2;have HA2:=Lib.hid ha2;have HT2:=Lib.hid ht2;have HF2:=Lib.hid hf2;have HQ2:=Lib.hid hq2;have hgw:go<wr.heap.size:=Nat.lt_of_lt_of_le hgo hbl.size;have HN2L:=Lib.hid hN2;clear hR2 ha2 ht2 hf2 hq2 hbl H HO3 hN2;generalize Tr F 14=T at *
      go_wp2_with fail
      generalize wr=w5 at *
      go_loopg [11] N2 (fun kx s11 wr=>∃(k:Nat),s11=.int .i64 (k:Int)/\k<=N2/\N2-k<=kx/\Aside (Own wr w.heap.size (.slice (some ⟨go,0,none⟩) n n) (cntS (List.replicate n 0) (flT T k))/\Frm w5 wr go none/\Below w.heap.size w wr))
      case atStart=>exact⟨0,by go_num,by omega,by omega,HO5.out.1,Frm.refl _ _ _,HO5.out.2⟩
      case round =>
       clear HO5;obtain⟨k,rfl,hk,hkk,H⟩:=hrel;by_cases hkn:k<N2
       ·obtain⟨y,hy⟩:∃y,T[k]? =some y:=⟨T[k]'(by omega),List.getElem?_eq_getElem _⟩
        obtain⟨a,ha⟩:∃a,R2[k]? =some a:=⟨R2[k]'(by rw[HR2.out];omega),List.getElem?_eq_getElem _⟩
        obtain⟨ad,rfl⟩:=HA2.out.some (by omega);have hta:=HT2.out.at ha hy;have hfa:=HF2.out a (List.mem_of_getElem? ha);have hyb:=HBT.out y (List.mem_of_getElem? hy);have HFS:=Lib.hid (flT_succ hy);have hfl:=flT_len HBT.out k;have HA:=Lib.hid ha;obtain⟨a1,⟨Aa,ma,ka⟩,fa⟩:=a;obtain⟨y1,ys,yf⟩:=y;have hma:ys.length=ma:=by have:=hta.sy.rd.len;unfold vI at this;simpa using this
        have HSY:=Lib.hid hta.sy.rd;have HFA:=Lib.hid hfa;have HYB:=Lib.hid hyb.2.2.2;have hma2:ma<=100000:=by have:=hyb.2.2.1;simp only at this;omega
        have hflb:(flT T k).length<=60000000:=by omega
        have HMA:=Lib.hid hma;clear hy ha hta hfa hyb hfl hma;go_wp2_with fail
        have H0:Aside _:=H.out;clear H;go_loopg [12] ma (fun kx2 s12 wr2=>∃(j:Nat),s12=.int .i64 (j:Int)/\j<=ma/\ma-j<=kx2/\Aside (Own wr2 w.heap.size (.slice (some ⟨go,0,none⟩) n n) (cntS (List.replicate n 0) (flT T k++ys.take j))/\Frm w5 wr2 go none/\Below w.heap.size w wr2))
        case atStart=>exact⟨0,by go_num,by omega,by omega,by rw[List.take_zero,List.append_nil];exact H0.out⟩
        case round =>
         clear H0;obtain⟨j,rfl,hj,hjk,H⟩:=hrel;have hrow:=rdT_cell (rd_frm HA2.out.rd H.out.2.1 (Nat.le_refl _) (fun hp ad' e=>⟨HQ2.out hp ad' e,by simp⟩)) HA.out;have hrow:wr.cell? ⟨(ad.add (k*3)).block,(ad.add (k*3)).off+1,none⟩=some (.slice Aa ma ka):=hrow;by_cases hjn:j<ma
         ·have hsy:Rd wr w5.heap.size 1 Aa ma (ys.map (Value.int .i64)):=rd_frm HSY.out H.out.2.1 (Nat.le_refl _) (fun hp ad' e=>⟨HFA.out hp ad' e,by simp⟩)
          obtain⟨ads,z,rfl,_,hz,hcz⟩:=hsy.int1 hjn;have hjl:j<ys.length:=by rw[HMA.out];exact hjn
          have hzb:=HYB.out z (List.mem_of_getElem? hz);have htk:ys.take (j+1)=ys.take j++[z]:=by rw[List.take_add_one,hz];rfl
          obtain⟨s,rfl⟩:=Int.eq_ofNat_of_zero_le hzb.1;have hs:s<n:=by have:=HN2.out;omega
          have hXl:(cntS (List.replicate n 0) (flT T k++ys.take j)).length=n:=by rw[length_cntS,List.length_replicate]
          have hc:=H.out.1.cell (k:=s) (x:=(cntS (List.replicate n 0) (flT T k++ys.take j)).getD s 0) (at_some _ _ (by rw[hXl];exact hs));have hf:=H.out.1.frozen (k:=s);have hbd:=cntS_bd n (flT T k++ys.take j) ((cntS (List.replicate n 0) (flT T k++ys.take j)).getD s 0) (by rw[List.getD_eq_getElem?_getD,List.getElem?_eq_getElem (by rw[hXl];exact hs)];exact List.getElem_mem _);rw[List.length_append,List.length_take] at hbd;have HNW:=H.out.1.put (k:=s) ((cntS (List.replicate n 0) (flT T k++ys.take j)).getD s 0+1);have e1:(cntS (List.replicate n 0) (flT T k++ys.take j)).set s ((cntS (List.replicate n 0) (flT T k++ys.take j)).getD s 0+1)=cntS (List.replicate n 0) (flT T k++ys.take (j+1)):=by
           rw[htk,<-List.append_assoc,cntS_snoc];rfl
          rw[e1] at HNW;have HFR:=H.out.2.1.set s (Value.int .i64 ((cntS (List.replicate n 0) (flT T k++ys.take j)).getD s 0+1));have HBL:=H.out.2.2.setCell (p:=⟨go,s,none⟩) H.out.1.ge (Value.int .i64 ((cntS (List.replicate n 0) (flT T k++ys.take j)).getD s 0+1));obtain⟨q,hq⟩:∃q,q=(cntS (List.replicate n 0) (flT T k++ys.take j)).getD s 0:=⟨_,rfl⟩
          rw[<-hq] at hc hbd HNW HFR HBL;have HX:Aside _:=And.intro HNW (And.intro HFR HBL);have hq0:0<=q:=hbd.1;have hq1:q<=60200000:=by omega
          have hsn:(s:Int)<(n:Int):=by omega
          clear HNW HFR HBL hq hbd e1 hXl htk hzb hz hjl hsy H;go_wp2_with fail
          go_roundg (ma-(j+1))
          case measure=>omega
          case rel=>exact⟨j+1,by go_num,by omega,by omega,HX.out⟩
         ·obtain rfl:j=ma:=by omega
          have HX:Aside (Own wr w.heap.size (.slice (some ⟨go,0,none⟩) n n) (cntS (List.replicate n 0) (flT T (k+1)))/\Frm w5 wr go none/\Below w.heap.size w wr):=by
           have hh:=H.out;rw[List.take_of_length_le (by rw[HMA.out];exact Nat.le_refl _)] at hh;rw[HFS.out];exact hh
          clear H;go_wp2_with fail
          go_roundg (N2-(k+1))
          case measure=>omega
          case rel=>exact⟨k+1,by go_num,by omega,by omega,HX.out⟩
       ·obtain rfl:k=N2:=by omega
        have HX:Aside (Own wr w.heap.size (.slice (some ⟨go,0,none⟩) n n) (bestL l 15)/\Below w.heap.size w wr):=by
         rw[<-HEND.out];exact⟨H.out.1,H.out.2.2⟩
        clear H;go_wp2_with fail
        go_ret2
        exact⟨_,rfl,HX.out⟩
end Rf
end Go.Proofs.YtjligbmickfbdaaGreat
namespace Go.Proofs.YtjligbmickfbdaaGreat
namespace Rf
open Go.RowKit Cn
def wdN (l:List Int) (n s:Nat):List (Int×Int):=(List.range l.length).map fun t=>if 0<l.getD t 0/\(l.getD t 0<(n:Int)∨l.getD t 0=(n:Int)/\t<s) then((wd l t:Int),l.getD t 0) else(0,0)
theorem length_wdN (l:List Int) (n s:Nat):(wdN l n s).length=l.length:=by simp[wdN]
theorem getD_at {l:List Int} {s:Nat} (h:s<l.length):l.getD s 0=l[s]:=by rw[List.getD_eq_getElem?_getD,List.getElem?_eq_getElem h];rfl
theorem wdN_zero (l:List Int):wdN l 1 0=List.replicate l.length (0,0):=by
 apply List.ext_getElem
 ·simp[wdN]
 ·intro i h1 h2
  simp only[wdN,List.getElem_map,List.getElem_range,List.getElem_replicate];rw[if_neg (by omega)]
theorem wdN_hit {l:List Int} {n s:Nat} (h:s<l.length) (hn:l[s]=(n:Int)) (h0:0<n):(wdN l n s).set s ((wd l s:Int),(n:Int))=wdN l n (s+1):=by
 apply List.ext_getElem
 ·simp[wdN]
 ·intro i h1 h2
  rw[List.getElem_set];simp only[wdN,List.getElem_map,List.getElem_range];by_cases e:s=i
  ·subst e
   rw[if_pos rfl,getD_at h,hn,if_pos ⟨by omega,.inr ⟨rfl,by omega⟩⟩]
  ·rw[if_neg e]
   by_cases hc:0<l.getD i 0/\(l.getD i 0<(n:Int)∨l.getD i 0=(n:Int)/\i<s)
   ·rw[if_pos hc,if_pos ⟨hc.1,by omega⟩]
   ·rw[if_neg hc,if_neg (by omega)]
theorem wdN_miss {l:List Int} {n s:Nat} (h:s<l.length) (hn:l[s]≠(n:Int)):wdN l n (s+1)=wdN l n s:=by
 unfold wdN;apply List.map_congr_left
 intro t _;have:=getD_at h;by_cases e:t=s
 ·subst e
  by_cases hc:0<l.getD t 0/\(l.getD t 0<(n:Int)∨l.getD t 0=(n:Int)/\t<t)
  ·rw[if_pos hc,if_pos ⟨hc.1,by omega⟩]
  ·rw[if_neg hc,if_neg (by omega)]
 ·by_cases hc:0<l.getD t 0/\(l.getD t 0<(n:Int)∨l.getD t 0=(n:Int)/\t<s)
  ·rw[if_pos hc,if_pos ⟨hc.1,by omega⟩]
  ·rw[if_neg hc,if_neg (by omega)]
theorem wdN_row (l:List Int) (n:Nat):wdN l n l.length=wdN l (n+1) 0:=by
 unfold wdN;apply List.map_congr_left
 intro t ht;rw[List.mem_range] at ht;by_cases hc:0<l.getD t 0/\(l.getD t 0<(n:Int)∨l.getD t 0=(n:Int)/\t<l.length)
 ·rw[if_pos hc,if_pos ⟨hc.1,by omega⟩]
 ·rw[if_neg hc,if_neg (by omega)]
theorem wdN_all (l:List Int) (h:∀x∈l,0<=x/\x<=15):wdN l 16 0=wds l:=by
 unfold wdN wds;apply List.map_congr_left
 intro t ht;rw[List.mem_range] at ht;have h1:=h _ (List.getElem_mem ht);rw[<-getD_at ht] at h1;by_cases hc:0<l.getD t 0
 ·rw[if_pos ⟨hc,by omega⟩,if_pos hc]
 ·rw[if_neg (fun x=>hc x.1),if_neg hc]
structure RowF (w w':World) (g:Nat) (D:List (Int×Int)):Prop where
 row:w'.heap[g]? =some (.cells (fl2 D).toArray 141 (0,0))
 bel:Below w.heap.size w w'
 ge:w.heap.size<=g
section
variable {w w':World} {g:Nat} {D:List (Int×Int)}
theorem RowF.set (h:RowF w w' g D) (q:Nat) (x y:Int):RowF w ((w'.setCell ⟨g,q*2,none⟩ (.int .i64 x)).setCell ⟨g,q*2+1,none⟩ (.int .i64 y)) g (D.set q (x,y)) :=
 ⟨by rw[row_set (row_set h.row),<-fl2_set2,Nat.mul_comm],(h.bel.setCell (p:=⟨g,q*2,none⟩) h.ge _).setCell (p:=⟨g,q*2+1,none⟩) h.ge _,h.ge⟩
theorem RowF.cell (h:RowF w w' g D) {k:Nat} {x:Int×Int} (hk:D[k]? =some x):w'.cell? ⟨g,k*2,none⟩=some (.int .i64 x.1)/\w'.cell? ⟨g,k*2+1,none⟩=some (.int .i64 x.2):=by
 rw[cell_of_row w' g _ _ _ (0,0) h.row,cell_of_row w' g _ _ _ (0,0) h.row];have:=fl2_at D k x hk;rw[Nat.mul_comm k 2];simpa using this
theorem RowF.fz (h:RowF w w' g D) (k:Nat):w'.frozen? ⟨g,k,none⟩=false:=frozen_of_row w' g k _ _ h.row
theorem RowF.rd (h:RowF w w' g D):Rd w' w'.heap.size 2 (some ⟨g,0,none⟩) D.length (fl2 D):=rd_row h.row (by rw[length_fl2])
end
set_option maxHeartbeats 6400000 in
set_option maxRecDepth 100000 in
theorem words_any (A:Option Addr) (n c:Nat) (l:List Int) (w:World) (hn:n<=257) (hok:Ok l) (hs:sumOk l=true) (hrd:Rd w w.heap.size 1 A n (l.map (Value.int .i64))) :
  Calls Tryz.prog 94 #[.slice A n c] w fun e w'=>∃g,e=.returned (.tuple #[.slice (some ⟨g,0,none⟩) n n,.int .i64 0])/\Rd w' w'.heap.size 2 (some ⟨g,0,none⟩) n (fl2 (wds l))/\Below w.heap.size w w':=by
 have hln:l.length=n:=by simpa using hrd.len
 have HC:=Lib.hid (refcheck_any A n c l w hn hok.rng hs hrd);have HL:=Lib.hid hln;have HR:=Lib.hid hrd;have HOK:=Lib.hid hok;have HZ:Hid (List.replicate n ((0:Int),(0:Int))=wdN l 1 0):=by show _=_;rw[wdN_zero,hln]
 have HW:=Lib.hid (wdN_all l hok.rng);clear hln hrd hok hs
 go_enter Tryz.func94, Tryz.ntmps94
 go_wp2_with (first|(go_at_call 135;refine HC.out.mono ?_;rintro e1 w1 ⟨rfl,rfl⟩)|(at_make;(refine make12 fieldPair (n:=n) (by omega) ?_);intro w1 hrow1 hg1))
 have H0:Aside (RowF w w1 w.heap.size (wdN l 1 0)):=⟨by rw[<-HZ.out];exact hrow1,(Below.refl _ _).grown hg1 (Nat.le_refl _) (by simp),Nat.le_refl _⟩
 clear hrow1 hg1 HZ;go_wp2_with fail
 obtain⟨g,hg⟩:∃g,g=w.heap.size:=⟨_,rfl⟩
 rw[<-hg] at H0;rw[<-hg];have HG:=Lib.hid hg;clear hg;go_loopg [6,7,8] 15 (fun kx s6 s7 s8 wr=>∃(m next last:Nat),s6=.int .i64 (next:Int)/\s7=.int .i64 (last:Int)/\s8=.int .i64 (m:Int)/\m<=16/\16-m<=kx/\0<m/\Hid (Wst l m 0 next last)/\Aside (RowF w wr g (wdN l m 0)))
 case atStart=>exact⟨1,0,0,by go_num,by go_num,by go_num,by omega,by omega,by omega,wst_start,H0.out⟩
 case round =>
  clear H0;obtain⟨m,next,last,rfl,rfl,rfl,hm,hmk,hm0,hst,H⟩:=hrel;by_cases hin:m<=15
  ·have hmI:decide ((m:Int)<=15)=true:=decide_eq_true (by omega)
   go_wp2_with fail
   go_loopg [6,7,9] n (fun kx2 s6 s7 s9 wr2=>∃(s next last:Nat),s6=.int .i64 (next:Int)/\s7=.int .i64 (last:Int)/\s9=.int .i64 (s:Int)/\s<=n/\n-s<=kx2/\Hid (Wst l m s next last)/\Aside (RowF w wr2 g (wdN l m s)))
   case atStart=>exact⟨0,next,last,by go_num,by go_num,by go_num,by omega,by omega,hst.out,H.out⟩
   case round =>
    clear hst H;obtain⟨s,next,last,rfl,rfl,rfl,hs,hsk,hst,H⟩:=hrel;by_cases hsn:s<n
    ·obtain⟨ad,x,rfl,had,hx,hcell⟩:=(HR.out.below H.out.bel).int1 hsn
     have hkl:s<l.length:=by have:=HL.out;omega
     rw[List.getElem?_eq_getElem hkl,Option.some.injEq] at hx;by_cases he:x=(m:Int)
     ·subst he
      have HX:=Lib.hid hx;have hHit:=Lib.hid (wdN_hit hkl hx hm0);have hlast:=hst.out.le;clear hx;go_wp2_with fail
      go_loopg [6,7] 16 (fun kx3 s6 s7 wr3=>∃(next last:Nat),s6=.int .i64 (next:Int)/\s7=.int .i64 (last:Int)/\last<=m/\m-last<=kx3/\Hid (Wst l m s next last)/\Aside (wr3=wr))
      case atStart=>exact⟨next,last,by go_num,by go_num,hlast,by omega,hst.out,rfl⟩
      case round =>
       clear hst;obtain⟨next,last,rfl,rfl,hlm,hlk,hst,hw⟩:=hrel;obtain rfl:=hw.out;have hsm:=hst.out.small HOK.out hin;by_cases hlt:last<m
       ·have h2:=Lib.hid (hst.out.two hlt)
        go_wp2_with fail
        go_roundg (m-(last+1))
        case measure=>omega
        case rel=>exact⟨2*next,last+1,by go_num,by go_num,by omega,by omega,h2.out,rfl⟩
       ·obtain rfl:last=m:=by omega
        obtain⟨hnx,hst2⟩:=hst.out.hit hkl (by omega) HX.out;have hsm2:=hst2.small HOK.out hin;have HS2:=Lib.hid hst2;have hD:s<(wdN l last s).length:=by rw[length_wdN];exact hkl
        obtain⟨c1,c2⟩:=H.out.cell (List.getElem?_eq_getElem hD);have f1:=H.out.fz (s*2);have f2:=H.out.fz (s*2+1);have hH:=H.out.set s (next:Int) (last:Int);rw[hnx,hHit.out,<-hnx] at hH;have H2:Aside _:=hH;generalize (wdN l last s)[s]=z at *
        obtain⟨z1,z2⟩:=z;have c1:wr.cell? ⟨g,s*2,none⟩=some (.int .i64 z1):=c1;have c2:wr.cell? ⟨g,s*2+1,none⟩=some (.int .i64 z2):=c2;clear hH hst2 hnx H hst hHit;go_wp2_with fail
        go_roundg (n-(s+1))
        case measure=>omega
        case rel=>exact⟨s+1,next+1,last,by go_num,by go_num,by go_num,by omega,by omega,HS2.out,H2.out⟩
     ·have hne:l[s]≠(m:Int):=by rw[hx];exact he
      have HS2:=Lib.hid (hst.out.miss hkl hne);have H2:Aside (RowF w wr g (wdN l m (s+1))):=by rw[wdN_miss hkl hne];exact H.out
      clear hne hx;go_wp2_with fail
      go_roundg (n-(s+1))
      case measure=>omega
      case rel=>exact⟨s+1,next,last,by go_num,by go_num,by go_num,by omega,by omega,HS2.out,H2.out⟩
    ·have hsl:s=l.length:=by rw[HL.out];omega
     have HS2:Hid (Wst l (m+1) 0 next last):=Wst.row (by rw[<-hsl];exact hst.out);have H2:Aside (RowF w wr g (wdN l (m+1) 0)):=by rw[<-wdN_row,<-hsl];exact H.out
     clear hsl hst H;go_wp2_with fail
     go_roundg (16-(m+1))
     case measure=>omega
     case rel=>exact⟨m+1,next,last,by go_num,by go_num,by go_num,by omega,by omega,by omega,HS2.out,H2.out⟩
  ·obtain rfl:m=16:=by omega
   have hH:=H.out;rw[HW.out] at hH;have hrd:=hH.rd;rw[show(wds l).length=n by rw[<-HW.out,length_wdN,HL.out]] at hrd;have HE:=Lib.hid (And.intro hrd hH.bel);clear H hst hH hrd;go_wp2_with fail
   go_ret2
   exact⟨g,rfl,HE.out⟩
end Rf
end Go.Proofs.YtjligbmickfbdaaGreat
namespace Go.Proofs.YtjligbmickfbdaaGreat
namespace Rf
open Go.RowKit Cn Bt
set_option maxHeartbeats 3200000 in
set_option maxRecDepth 100000 in
theorem refword_any (g n k x y:Nat) (D:List (Int×Int)) (w:World) (hn:n<=257) (hrd:Rd w w.heap.size 2 (some ⟨g,0,none⟩) n (fl2 D)) (hk:D[k]? =some ((x:Int),(y:Int))) (hx:x<=4294967295) (hy:y<=15) (hy0:0<y) :
  Calls Tryz.prog 96 #[.slice (some ⟨g,0,none⟩) n n,.int .i64 (k:Int)] w fun e w'=>∃v,e=.returned (.tuple #[v,.int .i64 0])/\Own w' w.heap.size v (ib (toB y x))/\Below w.heap.size w w':=by
 have mixed:Tryz.prog.follows .mixedOrders=true:=by kernel_rfl
 have HD:=Lib.hid (fun w=>digits_any x y w (by omega) hx);have hl:=hrd.len;rw[length_fl2] at hl;have hkl:=(List.getElem?_eq_some_iff.1 hk).1;obtain⟨ad,e,hblk,hcs⟩:=hrd.cells (by omega);cases e
 have hc:=fl2_at D k _ hk;have h1:=hcs (2*k) _ hc.1;have h2:=hcs (2*k+1) _ hc.2;simp only[Addr.add_lit,Nat.zero_add,Nat.mul_comm 2 k] at h1 h2;have hblk:g<w.heap.size:=hblk;have hS:∀wx,Below w.heap.size w wx->(wx.cell? ⟨g,k*2,none⟩=some (.int .i64 (x:Int))/\wx.cell? ⟨g,k*2+1,none⟩=some (.int .i64 (y:Int))):=fun wx hb =>
  ⟨(hb.cell (p:=⟨g,k*2,none⟩) hblk).trans h1,(hb.cell (p:=⟨g,k*2+1,none⟩) hblk).trans h2⟩
 have HS:=Lib.hid hS;have g1: ¬ (k:Int)<0:=by omega
 have g2: ¬ (k:Int)>=(n:Int):=by omega
 have g3:(k:Int)<(n:Int):=by omega
 have g4: ¬ (y:Int)=0:=by omega
 have hdr:=Lib.hid (HS.out w.drew (ext_drewN w 1));have HBD:=Lib.hid (ext_drewN w 1);clear hS hl hkl hcs hc hk hrd
 go_enter Tryz.func96, Tryz.ntmps96
 go_wp2_with fail
 go_region_held3 (fun wx=>(wx.cell? ⟨g,k*2,none⟩=some (.int .i64 (x:Int))/\wx.cell? ⟨g,k*2+1,none⟩=some (.int .i64 (y:Int)))) (first|exact hdr.out|assumption) (first|(go_at_call 136;refine(HD.out _).mono ?_;rintro e1 w1 ⟨v1,b1,rfl,hown1,hb1⟩;have hb2:Below w.heap.size w w1:=HBD.out.trans (show Below w.heap.size w.drew w1 from hb1);have hS1:=HS.out w1 hb2))
 go_wp2_with fail
 go_ret2
 exact⟨_,rfl,hown1,hb2⟩
end Rf
end Go.Proofs.YtjligbmickfbdaaGreat
namespace Go.Proofs.YtjligbmickfbdaaGreat
namespace Rf
open Go.RowKit Bt Tb
theorem rd_grown {w w':World} {row:Option Nat} {sz n:Nat} {A:Option Addr} {X:List Value} (h:Rd w w.heap.size sz A n X) (hg:w.grownBy w' row) (hA:∀ad,A=some ad->row≠some ad.block):Rd w' w'.heap.size sz A n X:=by
 refine⟨h.len,fun hn=>?_⟩;obtain⟨ad,e,hb,hc⟩:=h.cells hn;refine⟨ad,e,Nat.lt_of_lt_of_le hb hg.size,fun j u hu=>?_⟩;rw[<-hc j u hu];have e2:=add_block ad j;exact World.grownBy.cell_far hg (ad.add j) (by rw[e2];exact hb) (by rw[e2];exact(hA ad e).symm)
theorem own_apart {w1 w2:World} {B C:Nat} {v:Value} {l l2:List Int} {A:Option Addr} {n c:Nat} (h1:Own w1 B v l) (h2:Own w2 C (.slice A n c) l2) (hC:w1.heap.size<=C):∀ad,A=some ad->v.ownBlock≠some ad.block:=by
 intro ad e hv;subst e;have a:=(World.ownsRow.lt h1 _ hv).2;have b:=(World.ownsRow.lt h2 ad.block rfl).1;omega
theorem tb_len (l:List Int) (h:∀x∈l,0<=x/\x<=15) (hl:l.length<=257):(tb (runs l)).length<=10000:=by
 have h1:=runs_good l h;have h2:=length_tb_le (runs l) (fun x hx=>by
  have:=good_mem _ _ h1.1 x hx;rw[h1.2] at this;omega)
 have h3:=length_le_flat _ _ h1.1;rw[h1.2] at h3;omega
theorem runs_go {l:List Int} {i k:Nat} {x:Int} (hi:∀y∈(runs (l.take i)).getLast?,y.1≠x) (hk:k<l.length) (hx:l[k]=x) (hik:i<=k) (h:i<k->runs (l.take k)=runs (l.take i)++[(x,((k-i:Nat):Int))]):runs (l.take (k+1))=runs (l.take i)++[(x,((k+1-i:Nat):Int))]:=by
 rcases Nat.eq_or_lt_of_le hik with e|e
 ·subst e
  have:=runs_new (R:=runs (l.take i)) rfl hk (by rw[hx];exact hi);rw[this,hx,show i+1-i=1 by omega];rfl
 ·exact runs_take (h e) hk hx e
set_option maxHeartbeats 6400000 in
set_option maxRecDepth 100000 in
theorem reftab_any (A:Option Addr) (n c:Nat) (l:List Int) (w:World) (hn:n<=257) (hl:∀x∈l,0<=x/\x<=15) (hrd:Rd w w.heap.size 1 A n (l.map (Value.int .i64))) :
  Calls Tryz.prog 95 #[.slice A n c] w fun e w'=>∃v,e=.returned v/\Own w' w.heap.size v (ib (tb (runs l)))/\Below w.heap.size w w':=by
 have mixed:Tryz.prog.follows .mixedOrders=true:=by kernel_rfl
 have hln:l.length=n:=by simpa using hrd.len
 have HL:=Lib.hid hln;have HR:=Lib.hid hrd;have HRG:=Lib.hid hl;have hbl:Hid (∀i,(tb (runs (l.take i))).length<=10000):=fun i=>tb_len _ (fun x hx=>hl x (List.mem_of_mem_take hx)) (by rw[List.length_take];omega)
 clear hln hrd hl
 go_enter Tryz.func95, Tryz.ntmps95
 go_wp2_with fail
 go_loopg [3,4] n (fun kx s3 s4 wr=>∃(i:Nat),s4=.int .i64 (i:Int)/\i<=n/\n-i<=kx/\Hid (∀h:i<l.length,∀y∈(runs (l.take i)).getLast?,y.1≠l[i])/\Aside (Own wr w.heap.size s3 (ib (tb (runs (l.take i))))/\Below w.heap.size w wr))
 case atStart=>exact⟨0,by go_num,by omega,by omega,(fun h y hy=>by simp[runs] at hy),World.ownsRow_nil _ _ _ _,Below.refl _ _⟩
 case round =>
  obtain⟨i,rfl,hi,hik,hlast,H⟩:=hrel;by_cases hin:i<n
  ·obtain⟨ad,x,rfl,had,hx,hcell⟩:=(HR.out.below H.out.2).int1 hin
   have hil:i<l.length:=by have:=HL.out;omega
   rw[List.getElem?_eq_getElem hil,Option.some.injEq] at hx;have hxb:=HRG.out _ (List.getElem_mem hil);have hla:=hlast.out hil;rw[hx] at hxb hla;obtain⟨y,rfl⟩:=Int.eq_ofNat_of_zero_le hxb.1;have hy15:y<=15:=by omega
   have HLA:=Lib.hid hla;have HX:=Lib.hid hx;have HCI:=Lib.hid hcell;have hadl:ad.block<wr.heap.size:=Nat.lt_of_lt_of_le had H.out.2.size;clear hx hla hxb;go_wp2_with fail
   generalize wr=wo at *
   go_loopg [5] n (fun kx2 s5 wi=>∃(k:Nat),s5=.int .i64 (k:Int)/\i<=k/\k<=n/\n-k<=kx2/\Hid (i<k->runs (l.take k)=runs (l.take i)++[((y:Int),((k-i:Nat):Int))])/\Aside (Below wo.heap.size wo wi))
   case atStart=>exact⟨i,by go_num,by omega,by omega,by omega,(fun h=>absurd h (Nat.lt_irrefl _)),Below.refl _ _⟩
   case round =>
    obtain⟨k,rfl,hki,hkn,hk2,hru,HI⟩:=hrel;have hcell:wr.cell? (ad.add i)=some (.int .i64 (y:Int)):=(HI.out.cell (p:=ad.add i) (by rw[add_block];exact hadl)).trans HCI.out;by_cases hlt:k<n
    ·obtain⟨ad',z,e,had2,hz,hcz⟩:=((HR.out.below H.out.2).below (B:=w.heap.size) (HI.out.mono H.out.2.size)).int1 hlt
     cases e
     have hkl:k<l.length:=by have:=HL.out;omega
     rw[List.getElem?_eq_getElem hkl,Option.some.injEq] at hz;by_cases hzy:z=(y:Int)
     ·subst hzy
      have HR2:Hid (runs (l.take (k+1))=runs (l.take i)++[((y:Int),((k+1-i:Nat):Int))]):=runs_go HLA.out hkl hz hki hru.out;clear hz;go_wp2_with fail
      go_quiet (fail)
      go_wp2_with fail
      go_roundg (n-(k+1))
      case measure=>omega
      case rel=>exact⟨k+1,by go_num,by omega,by omega,by omega,(fun _=>HR2.out),below_drewN HI.out _⟩
     ·have hik2:i<k:=by
       rcases Nat.eq_or_lt_of_le hki with e|e
       ·subst e;rw[HX.out] at hz;exact absurd hz.symm hzy
       ·exact e
      have HRU:=Lib.hid (hru.out hik2);have HNX:Hid (∀h:k<l.length,∀u∈(runs (l.take k)).getLast?,u.1≠l[k]):=by
       intro h u hu;rw[HRU.out,List.getLast?_concat] at hu;cases hu
       rw[hz];exact fun e=>hzy e.symm
      have HTB:Hid (tb (runs (l.take k))=tb (runs (l.take i))++(toB 4 y++gam (k-i))):=by
       show _=_
       rw[HRU.out,tb_snoc];rfl
      have HD:Hid (∀w:World,Calls Tryz.prog 136 #[.int .i64 (y:Int),.int .i64 (4:Int)] w fun e w'=>∃v b,e=.returned (.tuple #[v,.bool b])/\Own w' w.heap.size v (ib (toB 4 y))/\Below w.heap.size w w'):=fun w=>digits_any y 4 w (by omega) (by omega)
      have HGM:Hid (∀w:World,Calls Tryz.prog 137 #[.int .i64 ((k:Int)-(i:Int))] w fun e w'=>∃v b,e=.returned (.tuple #[v,.bool b])/\Own w' w.heap.size v (ib (gam (k-i)))/\Below w.heap.size w w'):=fun w=>by
       have:=gamma_any (k-i) w (by omega) (by omega)
       rwa [show((k-i:Nat):Int)=(k:Int)-(i:Int) by omega] at this
      have hl1:(ib (tb (runs (l.take i)))).length<=10000:=by rw[length_ib];exact hbl.out i
      have hl2:(ib (toB 4 y)).length<=100:=by rw[length_ib,length_toB];omega
      have hl3:(ib (gam (k-i))).length<=100:=by
       rw[length_ib,length_gam _ (by omega)];have:=bl_le32 (n:=k-i) (by omega) (by omega);omega
      go_wp2_with fail
      go_quiet (fail)
      go_wp2_with fail
      have hb3:=below_drewN HI.out nq;clear HI hru;generalize wr.drewN nq=w3 at *
      have hcell3:w3.cell? (ad.add i)=some (.int .i64 (y:Int)):=(hb3.cell (p:=ad.add i) (by rw[add_block];exact hadl)).trans HCI.out;have hO3:Aside (Own w3 w.heap.size u3 (ib (tb (runs (l.take i))))/\Below w.heap.size w w3):=⟨own_below H.out.1 hb3 (Nat.le_refl _),H.out.2.trans (hb3.mono H.out.2.size)⟩
      have tok1:True:=trivial;clear hb3;go_wp2_with (first
       |(go_at_call 136;refine(HD.out _).mono ?_;rintro e4 w4 ⟨v4,b4,rfl,hown4,hb4⟩;obtain⟨A4,c4,rfl,-,-,hrd4⟩:=hown4.rd)
       |(go_at_call 137;refine(HGM.out _).mono ?_;rintro e5 w5 ⟨v5,b5,rfl,hown5,hb5⟩;obtain⟨A5,c5,rfl,-,-,hrd5⟩:=hown5.rd;have hb45:=ext_trans hb4 hb5;have hO5:=own_below hO3.out.1 hb45 (Nat.le_refl _);have hb05:=hO3.out.2.trans (hb45.mono hO3.out.2.size);have hrd45:=hrd4.ext hb5)
       |(at_builtin;have _t:=tok1;refine appendAll hO5 hrd45 (by omega) (by omega) hb05.size ?_;clear tok1;intro A6 n6 c6 w6 hn6 hown6 hb6 hg6;have hrd6:=rd_grown hrd5 hg6 (own_apart hO3.out.1 hown5 hb4.size))
       |(at_builtin;refine appendAll hown6 hrd6 (by rw[List.length_append];omega) (by omega) (Nat.le_trans hb05.size hb6.size) ?_;intro A7 n7 c7 w7 hn7 hown7 hb7 hg7))
      have HX:Aside (Own w7 w.heap.size (.slice A7 n7 c7) (ib (tb (runs (l.take k))))/\Below w.heap.size w w7):=⟨by rw[HTB.out,ib_append,ib_append,<-List.append_assoc];exact hown7,hb05.trans (hb6.trans hb7)⟩
      clear hown7 hb7 hb6 hown6 hg6 hg7 hrd6 hrd5 hrd45 hrd4 hown5 hown4 hb45 hO5 hb05 hb4 hb5 hcell3 hO3 H;go_roundg (n-k)
      case measure=>omega
      case rel=>exact⟨k,by go_num,by omega,by omega,HNX.out,HX.out⟩
    ·have hik2:i<k:=by
      rcases Nat.eq_or_lt_of_le hki with e|e
      ·omega
      ·exact e
     have HRU:=Lib.hid (hru.out hik2);have HNX:Hid (∀h:k<l.length,∀u∈(runs (l.take k)).getLast?,u.1≠l[k]):=fun h=>absurd h (by have:=HL.out;omega)
     have HTB:Hid (tb (runs (l.take k))=tb (runs (l.take i))++(toB 4 y++gam (k-i))):=by
      show _=_
      rw[HRU.out,tb_snoc];rfl
     have HD:Hid (∀w:World,Calls Tryz.prog 136 #[.int .i64 (y:Int),.int .i64 (4:Int)] w fun e w'=>∃v b,e=.returned (.tuple #[v,.bool b])/\Own w' w.heap.size v (ib (toB 4 y))/\Below w.heap.size w w'):=fun w=>digits_any y 4 w (by omega) (by omega)
     have HGM:Hid (∀w:World,Calls Tryz.prog 137 #[.int .i64 ((k:Int)-(i:Int))] w fun e w'=>∃v b,e=.returned (.tuple #[v,.bool b])/\Own w' w.heap.size v (ib (gam (k-i)))/\Below w.heap.size w w'):=fun w=>by
      have:=gamma_any (k-i) w (by omega) (by omega)
      rwa [show((k-i:Nat):Int)=(k:Int)-(i:Int) by omega] at this
     have hl1:(ib (tb (runs (l.take i)))).length<=10000:=by rw[length_ib];exact hbl.out i
     have hl2:(ib (toB 4 y)).length<=100:=by rw[length_ib,length_toB];omega
     have hl3:(ib (gam (k-i))).length<=100:=by
      rw[length_ib,length_gam _ (by omega)];have:=bl_le32 (n:=k-i) (by omega) (by omega);omega
     go_wp2_with fail
     go_quiet (fail)
     go_wp2_with fail
     have hb3:=below_drewN HI.out nq;clear HI hru;generalize wr.drewN nq=w3 at *
     have hcell3:w3.cell? (ad.add i)=some (.int .i64 (y:Int)):=(hb3.cell (p:=ad.add i) (by rw[add_block];exact hadl)).trans HCI.out;have hO3:Aside (Own w3 w.heap.size u3 (ib (tb (runs (l.take i))))/\Below w.heap.size w w3):=⟨own_below H.out.1 hb3 (Nat.le_refl _),H.out.2.trans (hb3.mono H.out.2.size)⟩
     have tok1:True:=trivial;clear hb3;go_wp2_with (first
      |(go_at_call 136;refine(HD.out _).mono ?_;rintro e4 w4 ⟨v4,b4,rfl,hown4,hb4⟩;obtain⟨A4,c4,rfl,-,-,hrd4⟩:=hown4.rd)
      |(go_at_call 137;refine(HGM.out _).mono ?_;rintro e5 w5 ⟨v5,b5,rfl,hown5,hb5⟩;obtain⟨A5,c5,rfl,-,-,hrd5⟩:=hown5.rd;have hb45:=ext_trans hb4 hb5;have hO5:=own_below hO3.out.1 hb45 (Nat.le_refl _);have hb05:=hO3.out.2.trans (hb45.mono hO3.out.2.size);have hrd45:=hrd4.ext hb5)
      |(at_builtin;have _t:=tok1;refine appendAll hO5 hrd45 (by omega) (by omega) hb05.size ?_;clear tok1;intro A6 n6 c6 w6 hn6 hown6 hb6 hg6;have hrd6:=rd_grown hrd5 hg6 (own_apart hO3.out.1 hown5 hb4.size))
      |(at_builtin;refine appendAll hown6 hrd6 (by rw[List.length_append];omega) (by omega) (Nat.le_trans hb05.size hb6.size) ?_;intro A7 n7 c7 w7 hn7 hown7 hb7 hg7))
     have HX:Aside (Own w7 w.heap.size (.slice A7 n7 c7) (ib (tb (runs (l.take k))))/\Below w.heap.size w w7):=⟨by rw[HTB.out,ib_append,ib_append,<-List.append_assoc];exact hown7,hb05.trans (hb6.trans hb7)⟩
     clear hown7 hb7 hb6 hown6 hg6 hg7 hrd6 hrd5 hrd45 hrd4 hown5 hown4 hb45 hO5 hb05 hb4 hb5 hcell3 hO3 H;go_roundg (n-k)
     case measure=>omega
     case rel=>exact⟨k,by go_num,by omega,by omega,HNX.out,HX.out⟩
  ·obtain rfl:i=n:=by omega
   have hE:Aside (Own wr w.heap.size u3 (ib (tb (runs l)))/\Below w.heap.size w wr):=by
    have:=H.out
    rwa [List.take_of_length_le (by rw[HL.out];exact Nat.le_refl _)] at this
   clear H hlast;go_wp2_with fail
   go_ret
   exact⟨_,rfl,hE.out⟩
end Rf
end Go.Proofs.YtjligbmickfbdaaGreat
namespace Go.Proofs.YtjligbmickfbdaaGreat
namespace Rf
open Go.RowKit Hf
set_option maxHeartbeats 3200000 in
set_option maxRecDepth 100000 in
theorem refcounts_any (A:Option Addr) (n c:Nat) (l:List Int) (w:World) (hn:n<=60000) (hall:l.all okS=true) (hrd:Rd w w.heap.size 1 A n (l.map (Value.int .i64))) :
  Calls Tryz.prog 92 #[.slice A n c] w fun e w'=>∃v,e=.returned (.tuple #[v,.int .i64 0])/\Own w' w.heap.size v (cts l)/\Below w.heap.size w w':=by
 have hln:l.length=n:=by simpa using hrd.len
 have h1: ¬ (n:Int)>100000:=by omega
 have HL:=Lib.hid hln;have HR:=Lib.hid hrd;have HALL:=Lib.hid hall;clear hln hrd hall
 go_enter Tryz.func92, Tryz.ntmps92
 go_wp2_with (at_make;(refine make1 (n:=257) (by omega) (Nat.le_refl w.heap.size) ?_);intro w1 hown1 hg1)
 have hb1:Below w.heap.size w w1:=(Below.refl _ _).grown hg1 (Nat.le_refl _) (by simp);have H0:Aside (Own w1 w.heap.size (.slice (some ⟨w.heap.size,0,none⟩) 257 257) (cts (l.take 0))/\Below w.heap.size w w1):=⟨hown1,hb1⟩
 clear hg1 hown1 hb1;go_wp2_with fail
 go_loopg [5] n (fun kx s5 wr=>∃(k:Nat),s5=.int .i64 (k:Int)/\k<=n/\n-k<=kx/\Aside (Own wr w.heap.size (.slice (some ⟨w.heap.size,0,none⟩) 257 257) (cts (l.take k))/\Below w.heap.size w wr))
 case atStart=>exact⟨0,rfl,by omega,by omega,H0.out⟩
 case round =>
  clear H0;obtain⟨k,rfl,hk,hkx,H⟩:=hrel;by_cases hlt:k<n
  ·obtain⟨ad,x,rfl,had,hx,hcell⟩:=(HR.out.below H.out.2).int1 hlt
   have hkl:k<l.length:=by have:=HL.out;omega
   rw[List.getElem?_eq_getElem hkl,Option.some.injEq] at hx;have hst:=cts_take l k hkl;have hox:okS l[k]=true:=List.all_eq_true.1 HALL.out _ (List.getElem_mem hkl);rw[hx] at hst hox;have HSt:=Lib.hid hst;have hxb:0<=x/\x<257:=by simpa[okS] using hox
   clear hst hx hkl hox;obtain⟨t,rfl⟩:=Int.eq_ofNat_of_zero_le hxb.1;have ht:t<257:=by omega
   have hc:=H.out.1.cell (k:=t) (x:=(cts (l.take k)).getD t 0) (at_some _ _ (by rw[length_cts];omega));have hf:=H.out.1.frozen (k:=t);have hbd:=cts_bd (l.take k) ((cts (l.take k)).getD t 0) (by rw[List.getD_eq_getElem?_getD,List.getElem?_eq_getElem (by rw[length_cts];omega)];exact List.getElem_mem _);have hbl:((l.take k).length:Int)<=60000:=by rw[List.length_take];omega
   have HN0:=Own.put2 (k:=t) H.out ((cts (l.take k)).getD t 0+1);have e1:(cts (l.take k)).set t ((cts (l.take k)).getD t 0+1)=cts (l.take (k+1)):=by
    rw[HSt.out,Int.toNat_natCast];rfl
   rw[e1] at HN0;obtain⟨y,hy⟩:∃y,y=(cts (l.take k)).getD t 0:=⟨_,rfl⟩
   rw[<-hy] at hc hbd HN0;have HN:Aside _:=HN0;have hy0:0<=y:=hbd.1;have hy1:y<=60000:=by omega
   have g1: ¬ (t:Int)<0:=by omega
   have g2: ¬ (t:Int)>256:=by omega
   clear HN0 H hy e1 hbd hbl hxb;go_wp2_with fail
   go_roundg (n-(k+1))
   case measure=>omega
   case rel=>exact⟨k+1,by go_num,by omega,by omega,HN.out⟩
  ·have hE:=H.out
   have e:l.take k=l:=List.take_of_length_le (by have:=HL.out;omega);rw[e] at hE;have HE:Aside _:=hE;clear H hE e;go_wp2_with fail
   go_ret2
   exact⟨_,rfl,HE.out⟩
end Rf
end Go.Proofs.YtjligbmickfbdaaGreat
namespace Go.Proofs.YtjligbmickfbdaaGreat
namespace Rf
open Go.RowKit Cn Bt Hf
theorem wds_at {L:List Int} {s y:Nat} (hs:s<L.length) (hy:L[s]=(y:Int)) (h0:0<y):(wds L)[s]? =some ((wd L s:Int),(y:Int)):=by
 unfold wds;rw[List.getElem?_map,List.getElem?_range hs,Option.map_some,getD_at hs,hy,if_pos (by omega)]
set_option maxHeartbeats 6400000 in
set_option maxRecDepth 100000 in
theorem hbits_any (A:Option Addr) (n c:Nat) (l:List Int) (w:World) (hn:n<=20000) (hall:l.all okS=true) (hrd:Rd w w.heap.size 1 A n (l.map (Value.int .i64))) :
  Calls Tryz.prog 48 #[.slice A n c] w fun e w'=>∃v,e=.returned (.tuple #[v,.int .i64 0])/\Own w' w.heap.size v (ib (hb l))/\Below w.heap.size w w':=by
 have mixed:Tryz.prog.follows .mixedOrders=true:=by kernel_rfl
 have hln:l.length=n:=by simpa using hrd.len
 have hg:=lns_good l;have hlen:=length_lns l;have hck:=check_lns l;have hok:=(ok_check hck).1;have hsum:sumOk (lns l)=true:=by
  have h1:=hck;unfold checkE at h1;rw[if_neg (by omega)] at h1;split at h1
  ·omega
  ·split at h1
   ·assumption
   ·omega
 have hcl:∀x∈cts l,0<=x/\x<=1000000:=fun x hx=>by have:=cts_bd l x hx;omega
 have hcn:(cts l).length=257:=length_cts l;have hus:∀k,(h:k<l.length)->0<=l[k]/\ ∃hs:l[k].toNat<(lns l).length,0<(lns l)[l[k].toNat]:=by
  intro k h;have hs:=List.getElem_mem h;have ho:0<=l[k]/\l[k]<257:=by simpa[okS] using List.all_eq_true.1 hall l[k] hs
  refine⟨ho.1,by omega,?_⟩;obtain⟨h1,h2⟩:=cts_pos l l[k] hs hall;have:=(hg.used l[k].toNat h1).2 h2
  rwa [List.getD_eq_getElem?_getD,List.getElem?_eq_getElem (by omega)] at this
 have htl:(Tb.tb (Tb.runs (lns l))).length<=10000:=tb_len (lns l) hg.rng (by omega);have hel:=enc_len (lns l) hg.rng;have HB:Hid (hb l=Tb.tb (Tb.runs (lns l))++enc (lns l) l):=rfl;have HCO:=Lib.hid (refcounts_any A n c l w (by omega) hall hrd);have HBE:=Lib.hid (fun A c w hrd=>refbest_any A 257 c (cts l) w (by omega) hcl hrd rfl);have HLE:Hid (Ln.bestL (cts l) 15=lns l):=rfl;have HWO:=Lib.hid (fun A c w hrd=>words_any A 257 c (lns l) w (by omega) hok hsum hrd);have HTA:=Lib.hid (fun A c w hrd=>reftab_any A 257 c (lns l) w (by omega) hg.rng hrd);have HR:=Lib.hid hrd;have HLN:=Lib.hid hln;have HUS:=Lib.hid hus;have HOK:=Lib.hid hok;have HEL:=Lib.hid hel;have HLL:=Lib.hid hlen;generalize lns l=L at *
 generalize hbl:hb l=X at *
 generalize cts l=C at *
 clear hrd hln hg hlen hck hok hsum hcl hus hel hall hbl
 go_enter Tryz.func48, Tryz.ntmps48
 go_wp2_with (first
  |(go_at_call 92;refine HCO.out.mono ?_;rintro e1 w1 ⟨v1,rfl,hown1,hb1⟩;obtain⟨A1,c1,rfl,-,-,hr1⟩:=hown1.rd;rw[hcn] at hr1 ⊢)
  |(go_at_call 93;refine(HBE.out A1 c1 w1 hr1).mono ?_;rintro e2 w2 ⟨v2,rfl,hown2,hb2⟩;rw[HLE.out] at hown2;obtain⟨A2,c2,rfl,-,-,hr2⟩:=hown2.rd;rw[HLL.out] at hr2 ⊢)
  |(go_at_call 94;refine(HWO.out A2 c2 w2 hr2).mono ?_;rintro e3 w3 ⟨g,rfl,hwd,hb3⟩;have hr3:=hr2.ext hb3)
  |(go_at_call 95;refine(HTA.out A2 c2 w3 hr3).mono ?_;rintro e4 w4 ⟨v4,rfl,hown4,hb4⟩))
 have hb03:Below w.heap.size w w3:=ext_trans (ext_trans hb1 hb2) hb3;have HWD:=Lib.hid hwd;have HB03:=Lib.hid hb03;have H0:Aside (Own w4 w3.heap.size v4 (ib (Tb.tb (Tb.runs L)++enc L (l.take 0)))/\Below w3.heap.size w3 w4):=⟨by rw[List.take_zero];simpa[enc] using hown4,hb4⟩
 generalize Tb.tb (Tb.runs L)=T at *
 clear hown1 hr1 hb1 hown2 hr2 hb2 hwd hb3 hr3 hown4 hb4 hb03;go_wp2_with fail
 go_loopg [10,11] n (fun kx s10 s11 wr=>∃(k:Nat),s11=.int .i64 (k:Int)/\k<=n/\n-k<=kx/\Aside (Own wr w3.heap.size s10 (ib (T++enc L (l.take k)))/\Below w3.heap.size w3 wr))
 case atStart=>exact⟨0,by go_num,by omega,by omega,H0.out⟩
 case round =>
  clear H0;obtain⟨k,rfl,hk,hkx,H⟩:=hrel;by_cases hlt:k<n
  ·obtain⟨ad,x,rfl,had,hx,hcell⟩:=(HR.out.below (HB03.out.trans (H.out.2.mono HB03.out.size))).int1 hlt
   have hkl:k<l.length:=by have:=HLN.out;omega
   have hkx2:l[k]=x:=by rw[List.getElem?_eq_getElem hkl] at hx;exact Option.some.inj hx
   have hu:=HUS.out k hkl;have het:=enc_take L l k hkl;rw[hkx2] at hu het;obtain⟨s,rfl⟩:∃s:Nat,x=(s:Int):=⟨x.toNat,by omega⟩
   rw[Int.toNat_natCast] at hu het;obtain⟨_,hsl,hsp⟩:=hu;rw[getD_at hsl] at het;obtain⟨y,hy⟩:=Int.eq_ofNat_of_zero_le (Int.le_of_lt hsp);have hlt2:=wd_lt L HOK.out s y hsl (by omega) hy;have hwl:wd L s<=4294967295:=by
    have:2^y<=2^15:=Nat.pow_le_pow_right (by omega) hlt2.2.2;omega
   rw[hy,Int.toNat_natCast] at het;have hel:=HEL.out (l.take k);rw[List.length_take] at hel;have hel2:(enc L (l.take k)).length<=400000:=by omega
   have HET:=Lib.hid het;have HW:=Lib.hid (refword_any g 257 s (wd L s) y (wds L) wr (by omega) (HWD.out.ext H.out.2) (wds_at hsl hy (by omega)) hwl hlt2.2.2 (by omega));have hyb:y<=15:=hlt2.2.2;clear hx hkl hkx2 het hel hlt2 hwl hsp hy;go_wp2_with (first
    |(go_at_call 96;refine HW.out.mono ?_;rintro e5 w5 ⟨v5,rfl,hown5,hb5⟩;obtain⟨A5,c5,rfl,-,-,hr5⟩:=hown5.rd;have hO5:=own_below H.out.1 hb5 (Nat.le_refl _);have hb35:=H.out.2.trans (hb5.mono H.out.2.size))
    |(at_builtin;refine appendAll hO5 hr5 (by rw[length_ib,List.length_append];omega) (by rw[length_ib,length_toB];omega) hb35.size ?_;intro A6 n6 c6 w6 hn6 hown6 hb6 hg6))
   have HX:Aside (Own w6 w3.heap.size (.slice A6 n6 c6) (ib (T++enc L (l.take (k+1))))/\Below w3.heap.size w3 w6):=⟨by rw[HET.out,<-List.append_assoc,ib_append];exact hown6,hb35.trans hb6⟩
   clear hown6 hb6 hg6 hO5 hb35 hb5 hown5 hr5 H;go_roundg (n-(k+1))
   case measure=>omega
   case rel=>exact⟨k+1,by go_num,by omega,by omega,HX.out⟩
  ·obtain rfl:k=n:=by omega
   have HE:Aside (Own wr w.heap.size u10 (ib X)/\Below w.heap.size w wr):=by
    have h1:=H.out.1;rw[List.take_of_length_le (by rw[HLN.out];exact Nat.le_refl _),<-HB.out] at h1;exact⟨Own.lower h1 HB03.out.size,HB03.out.trans (H.out.2.mono HB03.out.size)⟩
   clear H;go_wp2_with fail
   go_ret2
   exact⟨_,rfl,HE.out⟩
theorem hb_len (l:List Int) (hn:l.length<=20000):(hb l).length<=400000:=by
 have hg:=lns_good l;have h1:=tb_len (lns l) hg.rng (by rw[length_lns];omega);have h2:=enc_len (lns l) hg.rng l;unfold hb;rw[List.length_append];omega
set_option maxHeartbeats 3200000 in
set_option maxRecDepth 100000 in
theorem refencode_any (A:Option Addr) (n c:Nat) (l:List Int) (w:World) (hn:n<=20000) (hall:l.all okS=true) (hrd:Rd w w.heap.size 1 A n (l.map (Value.int .i64))) :
  Calls Tryz.prog 20 #[.slice A n c] w fun e w'=>e=.returned (.tuple #[.string ⟨(hbyt l).toArray⟩,.int .i64 0])/\Below w.heap.size w w':=by
 have hln:l.length=n:=by simpa using hrd.len
 have hhl:=hb_len l (by omega);have HB:=Lib.hid (hbits_any A n c l w hn hall hrd);have HT:=Lib.hid (fun A n c w hrd hn=>text_any (hb l) A n c w hrd hn);have HE:Hid (byt (hb l)=hbyt l):=rfl;generalize hX:hb l=X at *
 clear hln hrd hall hX
 go_enter Tryz.func20, Tryz.ntmps20
 go_wp2_with (first
  |(go_at_call 48;refine HB.out.mono ?_;rintro e1 w1 ⟨v1,rfl,hown1,hb1⟩;obtain⟨A1,c1,rfl,-,-,hr1⟩:=hown1.rd)
  |(go_at_call 49;refine(HT.out A1 _ c1 w1 hr1 (by rw[length_ib];omega)).mono ?_;rintro e2 w2 ⟨rfl,hb2⟩))
 go_ret2
 exact⟨by rw[HE.out];rfl,ext_trans hb1 hb2⟩
end Rf
end Go.Proofs.YtjligbmickfbdaaGreat
