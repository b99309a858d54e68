/- lens.taken. lens.refused. -/
import Derived.Test.YtjligbmickfbdaaGreatBe31
import Derived.Test.YtjligbmickfbdaaGreatBe05
import Derived.Test.YtjligbmickfbdaaGreatBe15
namespace Go.Proofs.YtjligbmickfbdaaGreat
namespace Ln
open Go.RowKit Go.Lib Go.Sort St
open Bt (Frm)
theorem rows_mem {F:List Thing}:∀(i:Nat) (x:Thing),x∈rowsL F i->0<=x.2->x∈F
 |0,x,h,_=>h
 |i+1,x,h,h0=>by
  rcases(mrg_mem F (packs 0 (rowsL F i))).1 h with h|h
  ·exact h
  ·have:=packs_neg 0 _ x h;omega
theorem Sl2.frm {w w':World} {B b k n:Nat} {o:Nat} {g:Option Nat} {l:List Thing} (h:Sl2 w B b k n l) (hf:Frm w w' o g) (hB:B<=w.heap.size) (ho:b≠o) (hg:some b≠g):Sl2 w' B b k n l:=by
 refine⟨Rd.len h,fun hn=>?_⟩;obtain⟨ad,e,hb,hc⟩:=Rd.cells h hn;cases e
 refine⟨_,rfl,hb,fun j u hu=>?_⟩;have:=hc j u hu;rw[Addr.add_lit] at this ⊢;rw[<-this];exact World.cell?_of_block (hf.blk b (by have:b<B:=hb;omega) ho hg)
theorem npk_take (l:List Thing) (j:Nat) (x:Thing) (h:l[j]? =some x):npk (l.take (j+1))=npk (l.take j)+if x.2<0 then 1 else 0:=by
 unfold npk;rw[List.take_add_one,h,List.filter_append,List.length_append];by_cases h0:x.2<0
 ·simp[h0]
 ·simp[h0]
theorem incs_take (o:List Int) (l:List Thing) (j:Nat) (x:Thing) (h:l[j]? =some x):incs o (l.take (j+1))=if x.2<0 then incs o (l.take j) else inc (incs o (l.take j)) x.2.toNat:=by
 unfold incs;rw[List.take_add_one,h,List.foldl_append];rfl
def takenF (F:List Thing) (i n:Nat) (o:List Int):List Int:=match i with|0=>o|i+1=>takenP F i n o
theorem takenF_step (F:List Thing) (i n:Nat) (o:List Int):takenF F (i+1) n o=takenF F i (2*npk ((rowsL F i).take n)) (incs o ((rowsL F i).take n))∨i=0/\takenF F (i+1) n o=incs o ((rowsL F i).take n):=by
 rcases i with _|i
 ·right;exact⟨rfl,rfl⟩
 ·left;rfl
theorem takenF_zero (F:List Thing) (i:Nat) (o:List Int):takenF F i 0 o=o:=by
 rcases i with _|i
 ·rfl
 ·exact takenP_zero F i o
theorem takenF_next (F:List Thing) (i n:Nat) (o:List Int):takenF F (i+1) n o=takenF F i (2*npk ((rowsL F i).take n)) (incs o ((rowsL F i).take n)):=by
 rcases i with _|i
 ·rfl
 ·rfl
theorem frm_alloc {w w':World} {b:Nat} {g:Option Nat} (h:Frm w w' b g) (o:Obj):Frm w (w'.alloc o) b g :=
 ⟨h.os,h.tape,h.output,by have:=h.size;simp;omega,fun k hk hb hg=>(Below.heap_alloc w' o k (by have:=h.size;omega)).trans (h.blk k hk hb hg)⟩
theorem pk_le {F:List Thing} (h:Leaves F) (q n:Nat) (hn:n<=(rowsL F q).length) (hq:0<q):2*npk ((rowsL F q).take n)<=(rowsL F (q-1)).length:=by
 obtain⟨i,rfl⟩:∃i,q=i+1:=⟨q-1,by omega⟩
 obtain⟨a,b,_,_,hb,_,_,hp,_⟩:=rows_take h i n hn;rw[hp,Nat.add_sub_cancel];exact hb
theorem rows_len {F:List Thing} (h:F.length<=257) (q:Nat):(rowsL F q).length<=514:=by
 rcases length_rows (F:=F) q with e|e
 ·generalize (F.length-1)/2^q=b at e
  omega
 ·have:∀i,(rowsL F i).length=0:=by
   have hF:F=[]:=List.eq_nil_of_length_eq_zero e;subst hF;intro i
   induction i with
   |zero=>rfl
   |succ i ih=>show(mrg wt [] (packs 0 (rowsL [] i))).length=0;rw[length_mrg,length_packs,ih];rfl
  rw[this];omega
def RowsAt (w:World) (_B go gr m:Nat) (F:List Thing):Prop:=gr≠go/\gr<w.heap.size/\ ∀i,i<m-> ∃g c,w.cell? ⟨gr,i,none⟩=some (.slice (some ⟨g,0,none⟩) (rowsL F i).length c)/\(rowsL F i).length<=c/\g≠go/\Sl2 w w.heap.size g 0 (rowsL F i).length (rowsL F i)
def Bd (o:List Int) (M:Nat):Prop:=∀y∈o,0<=y/\y<=(M:Int)
theorem Bd.inc {o:List Int} {M:Nat} (h:Bd o M) (s:Nat):Bd (inc o s) (M+1):=by
 intro y hy;rcases List.mem_or_eq_of_mem_set hy with hy|rfl
 ·have:=h y hy;omega
 ·by_cases hs:s<o.length
  ·have:=h (o.getD s 0) (by rw[List.getD_eq_getElem?_getD,List.getElem?_eq_getElem hs];exact List.getElem_mem hs);omega
  ·rw[List.getD_eq_getElem?_getD,List.getElem?_eq_none (by omega)];simp;omega
theorem Bd.incs {M:Nat}:∀(l:List Thing) (o:List Int),Bd o M->Bd (incs o l) (M+l.length)
 | [],o,h=>h
 |x::l,o,h=>by
  have e:Ln.incs o (x::l)=Ln.incs (if x.2<0 then o else Ln.inc o x.2.toNat) l:=rfl;rw[e,List.length_cons,show M+(l.length+1)=M+1+l.length by omega];refine Bd.incs l _ ?_;split
  ·exact fun y hy=>by have:=h y hy;omega
  ·exact h.inc _
theorem Bd.more {o:List Int} {M M':Nat} (h:Bd o M) (hm:M<=M'):Bd o M':=fun y hy=>by have:=h y hy;omega
set_option maxHeartbeats 6400000 in
set_option maxRecDepth 100000 in
theorem taken_any (w:World) (B go co gr cr m n N:Nat) (F:List Thing) (o:List Int) (hm:m<=15) (_hmc:m<=cr) (hF:Leaves F) (hFl:F.length<=257) (hN:∀x∈F,x.2.toNat<N) (hn:0<m->n<=(rowsL F (m-1)).length) (hnb:n<=100000)
  (hol:o.length=N) (hob:Bd o 0) (hown:Own w B (.slice (some ⟨go,0,none⟩) N co) o) (hR:RowsAt w B go gr m F) :
  Calls Tryz.prog 127 #[.slice (some ⟨gr,0,none⟩) m cr,.int .i64 (n:Int),.slice (some ⟨go,0,none⟩) N co] w fun e w'=>e=.returned (.tuple #[]) /\
   Own w' B (.slice (some ⟨go,0,none⟩) N co) (takenF F m n o)/\Frm w w' go none:=by
 have mixed:Tryz.prog.follows .mixedOrders=true:=by kernel_rfl
 have HOWN:=Lib.hid hown;have HR:=Lib.hid hR;have HN:=Lib.hid hN;have HOB:=Lib.hid hob;have HNN:=Lib.hid hn;have HOL:=Lib.hid hol;clear hown hR hN hob hn hol
 go_enter Tryz.func127, Tryz.ntmps127
 go_wp2_with fail
 go_loopg [1,6] m (fun kx s1 s6 wr=>∃(k n1:Nat) (z:Int) (o1:List Int),s1=.int .i64 (n1:Int)/\s6=.int .i64 z/\z=(k:Int)-1/\k<=m/\k<=kx/\n1<=100000 /\
  Aside ((0<k->n1<=(rowsL F (k-1)).length)/\o1.length=N/\Bd o1 (1000*(m-k))/\takenF F k n1 o1=takenF F m n o)/\Aside (Own wr B (.slice (some ⟨go,0,none⟩) N co) o1/\Frm w wr go none))
 case atStart=>exact⟨m,n,_,o,rfl,rfl,by first|rfl|go_num,by omega,by omega,hnb,⟨HNN.out,HOL.out,HOB.out.more (by omega),rfl⟩,HOWN.out,Frm.refl _ _ _⟩
 case round =>
  obtain⟨k,n1,z,o1,rfl,rfl,hz,hkm,hkx,hnb1,HP,HW⟩:=hrel;by_cases hk0:0<k
  ·by_cases hn0:0<n1
   ·obtain⟨q,rfl⟩:∃q,k=q+1:=⟨k-1,by omega⟩
    obtain rfl:z=(q:Int):=by omega
    obtain⟨g,c,hcell,hle,hgo,hS⟩:=HR.out.2.2 q (by omega);have hgr:=HR.out.1;have hgrl:=HR.out.2.1;have hcr:wr.cell? ⟨gr,q,none⟩=some (.slice (some ⟨g,0,none⟩) (rowsL F q).length c):=by
     rw[World.cell?_of_block (HW.out.2.blk gr hgrl hgr (by simp))];exact hcell
    have hnl:=HP.out.1 hk0;rw[Nat.add_sub_cancel] at hnl;have HS:=Lib.hid hS;have HNL:=Lib.hid hnl;have q1:(n1:Int)<=(c:Int):=by omega
    have q2:q<m:=by omega
    obtain⟨ln,hln⟩:∃ln,ln=(rowsL F q).length:=⟨_,rfl⟩
    rw[<-hln] at hcr;have HLN:=Lib.hid hln;clear hcell hle hS hnl hgr hgrl hln hz;go_wp2_with fail
    go_loopg [7,28] n1 (fun jx s7 s28 w2=>∃(j:Nat),s28=.int .i64 (j:Int)/\s7=.int .i64 (npk ((rowsL F q).take j):Int)/\j<=n1/\n1-j<=jx /\
     Aside (Own w2 B (.slice (some ⟨go,0,none⟩) N co) (incs o1 ((rowsL F q).take j))/\Frm w w2 go none))
    case atStart=>exact⟨0,rfl,rfl,by omega,by omega,HW.out⟩
    case round =>
     obtain⟨j,rfl,rfl,hj,hjx,HV⟩:=hrel;have hpk:npk ((rowsL F q).take j)<=514:=by
      unfold npk;exact Nat.le_trans (List.length_filter_le _ _) (by rw[List.length_take];have:=rows_len hFl q;omega)
     by_cases hlt:j<n1
     ·have hjl:j<(rowsL F q).length:=by have:=HNL.out;omega
      obtain⟨x,hx⟩:∃x,(rowsL F q)[j]? =some x:=⟨_,List.getElem?_eq_getElem hjl⟩
      have hmem:x∈rowsL F q:=List.mem_of_getElem? hx;have hpt:=npk_take _ _ _ hx;have hit:=incs_take o1 _ _ _ hx;have hxs:0<=x.2->x.2.toNat<N:=fun h0=>HN.out x (rows_mem q x hmem h0)
      have hS2:=HS.out.frm HV.out.2 (Nat.le_refl _) hgo (by simp);obtain⟨ad,e,_,hc⟩:=Rd.cells hS2 (by omega);cases e
      have hat:=fl2_at _ _ _ hx;have hx1:=hc (2*j) _ hat.1;have hx2:=hc (2*j+1) _ hat.2;rw[Addr.add_lit,Nat.zero_add] at hx1 hx2;rw[show 2*j=j*2 by omega] at hx1 hx2;have HPT:=Lib.hid hpt;have HIT:=Lib.hid hit;have hbd:=Bd.incs ((rowsL F q).take j) o1 HP.out.2.2.1;rw[List.length_take] at hbd;have hlen:(incs o1 ((rowsL F q).take j)).length=N:=by rw[length_incs,HP.out.2.1]
      clear hpt hit hmem hat hc hS2 hx;have hal:Own (wr.alloc (.cells #[.int .i64 x.1,.int .i64 x.2] 180)) B (.slice (some ⟨go,0,none⟩) N co) (incs o1 ((rowsL F q).take j))/\Frm w (wr.alloc (.cells #[.int .i64 x.1,.int .i64 x.2] 180)) go none :=
       ⟨World.ownsRow.alloc HV.out.1 _,frm_alloc HV.out.2 _⟩
      by_cases h0:x.2<0
      ·go_wp2_with fail
       go_roundg (n1-(j+1))
       case measure=>omega
       case rel=>exact⟨j+1,by go_num,by rw[HPT.out,if_pos h0];go_num,by omega,by omega,by rw[HIT.out,if_pos h0];exact hal⟩
      ·obtain⟨x1,x2⟩:=x
       simp only at h0 hxs hx1 hx2 HIT HPT hal;obtain⟨s,rfl⟩:∃s:Nat,x2=(s:Int):=⟨x2.toNat,by omega⟩
       have hsN:=hxs (by omega);rw[Int.toNat_natCast] at hsN HIT;have hy:=at_some (incs o1 ((rowsL F q).take j)) s (by omega);have hyc:=hal.1.cell hy;have hyf:=hal.1.frozen (k:=s);have hyb:=hbd _ (List.mem_of_getElem? hy);have hpt:=Own.put hal.1 (k:=s) ((incs o1 ((rowsL F q).take j)).getD s 0+1);have hfr:Frm w ((wr.alloc (.cells #[.int .i64 x1,.int .i64 (s:Int)] 180)).setCell ⟨go,s,none⟩ (.int .i64 ((incs o1 ((rowsL F q).take j)).getD s 0+1))) go none:=hal.2.set s _;have HX:Aside _:=And.intro hpt hfr;have HINC:=Lib.hid (show inc (incs o1 ((rowsL F q).take j)) s=(incs o1 ((rowsL F q).take j)).set s ((incs o1 ((rowsL F q).take j)).getD s 0+1) from rfl);generalize (incs o1 ((rowsL F q).take j)).getD s 0=y at *
       clear hpt hfr hy hal hxs hbd hlen;go_wp2_with fail
       go_roundg (n1-(j+1))
       case measure=>omega
       case rel=>exact⟨j+1,by go_num,by rw[HPT.out,if_neg (by simp)];rfl,by omega,by omega,by rw[HIT.out,if_neg (by simp),HINC.out];exact HX.out⟩
     ·obtain rfl:j=n1:=by omega
      have hnx:=takenF_next F q j o1;have HNX:=Lib.hid hnx;have hpt:=(HNL.out)
      have hb2:=Bd.incs ((rowsL F q).take j) o1 HP.out.2.2.1;rw[List.length_take] at hb2;have HB2:=Lib.hid hb2;have hpkl:=pk_le hF q j HNL.out;have HPKL:=Lib.hid hpkl;have hll:=rows_len hFl q;clear hnx hpt hb2;go_wp2_with fail
      go_roundg q
      case measure=>omega
      case rel =>
       refine⟨q,2*npk ((rowsL F q).take j),_,_,by go_num,rfl,by omega,by omega,by omega,by omega,⟨fun h=>?_,?_,?_,?_⟩,HV.out⟩
       ·exact HPKL.out h
       ·rw[length_incs];exact HP.out.2.1
       ·exact HB2.out.more (by have:=HNL.out;have:=hll;have:=hkm;omega)
       ·rw[<-HNX.out];exact HP.out.2.2.2
   ·obtain rfl:n1=0:=by omega
    have hz0:takenF F k 0 o1=o1:=takenF_zero F k o1;have HZ:=Lib.hid hz0;have hzz:0<=z:=by omega
    clear hz0 hz;go_wp2_with fail
    go_end0
    refine⟨rfl,?_,HW.out.2⟩;rw[<-HP.out.2.2.2,HZ.out];exact HW.out.1
  ·obtain rfl:k=0:=by omega
   obtain rfl:z= -1:=by omega
   clear hz;go_wp2_with fail
   go_end0
   refine⟨rfl,?_,HW.out.2⟩;rw[<-HP.out.2.2.2];exact HW.out.1
end Ln
end Go.Proofs.YtjligbmickfbdaaGreat
namespace Go.Proofs.YtjligbmickfbdaaGreat
namespace Ln
open Go.RowKit Go.Lib
set_option maxHeartbeats 1600000 in
theorem often_any (x:Int) (w:World) (h:0<=x/\x<=1000000):Calls Tryz.prog 146 #[.int .i64 x] w fun e w'=>e=.returned (.bool false)/\w=w':=by
 have h1: ¬ x<0:=by omega
 have h2: ¬ 1000000<x:=by omega
 go_enter Tryz.func146, Tryz.ntmps146
 go_wp2
 go_ret
 exact⟨rfl,rfl⟩
set_option maxHeartbeats 3200000 in
set_option maxRecDepth 100000 in
theorem index_any (A:Option Addr) (n c:Nat) (l:List Int) (w:World) (hn:n<=1000000) (hok:∀x∈l,0<=x/\x<=1000000) (hrd:Rd w w.heap.size 1 A n (l.map (Value.int .i64))) :
  Calls Tryz.prog 154 #[.slice A n c,.func (.func 146) #[] #[]] w fun e w'=>e=.returned (.int .i64 (-1))/\ ∃m,w'=w.drewN m:=by
 have mixed:Tryz.prog.follows .mixedOrders=true:=by kernel_rfl
 have hln:l.length=n:=by simpa using hrd.len
 have HL:=Lib.hid hln;have HR:=Lib.hid hrd;have HO:=Lib.hid hok;have HT:=Lib.hid (fun x w h=>often_any x w h);clear hln hrd hok
 go_enter Tryz.func154, Tryz.ntmps154
 go_wp2_with fail
 go_loopg [8] n (fun kx s8 wr=>∃(k m:Nat),s8=.int .i64 (k:Int)/\k<=n/\n-k<=kx/\wr=w.drewN m)
 case atStart=>exact⟨0,0,rfl,by omega,by omega,rfl⟩
 case round =>
  obtain⟨k,m,rfl,hk,hkx,rfl⟩:=hrel;by_cases hlt:k<n
  ·obtain⟨ad,x,rfl,had,hx,hcell⟩:=HR.out.int1 hlt
   have hkl:k<l.length:=by have:=HL.out;omega
   rw[List.getElem?_eq_getElem hkl,Option.some.injEq] at hx;have hbx:=HO.out x (hx▸List.getElem_mem hkl);have hcall:=fun w=>HT.out x w hbx
   clear hx hkl hbx had;have HC:=Lib.hid hcall;clear hcall;go_wp2_with fail
   refine(HC.out _).mono ?_;rintro e1 w1 ⟨rfl,rfl⟩;go_wp2_with fail
   go_roundg (n-(k+1))
   case measure=>omega
   case rel=>exact⟨k+1,_,by go_num,by omega,by omega,by first|rfl|trivial⟩
  ·go_wp2_with fail
   go_ret
   exact⟨rfl,_,rfl⟩
set_option maxHeartbeats 1600000 in
theorem contains_any (A:Option Addr) (n c:Nat) (l:List Int) (w:World) (hn:n<=1000000) (hok:∀x∈l,0<=x/\x<=1000000) (hrd:Rd w w.heap.size 1 A n (l.map (Value.int .i64))) :
  Calls Tryz.prog 145 #[.slice A n c,.func (.func 146) #[] #[]] w fun e w'=>e=.returned (.bool false)/\ ∃m,w'=w.drewN m:=by
 have mixed:Tryz.prog.follows .mixedOrders=true:=by kernel_rfl
 have hi:=index_any A n c l w hn hok hrd;have HI:=Lib.hid hi;clear hi hok hrd
 go_enter Tryz.func145, Tryz.ntmps145
 go_wp2_with fail
 refine HI.out.mono ?_;rintro e1 w1 ⟨rfl,m,rfl⟩;go_wp2_with fail
 go_ret
 exact⟨rfl,m,rfl⟩
set_option maxHeartbeats 3200000 in
theorem refused_any (A:Option Addr) (n c:Nat) (l:List Int) (w:World) (hn:n<=257) (hok:∀x∈l,0<=x/\x<=1000000) (hrd:Rd w w.heap.size 1 A n (l.map (Value.int .i64))) :
  Calls Tryz.prog 123 #[.slice A n c,.int .i64 15] w fun e w'=>e=.returned (.int .i64 0)/\ ∃m,w'=w.drewN m:=by
 have mixed:Tryz.prog.follows .mixedOrders=true:=by kernel_rfl
 have hi:=contains_any A n c l w (by omega) hok hrd;have HI:=Lib.hid hi;have hu:∀m,Calls Tryz.prog 128 #[.slice A n c] (w.drewN m) fun e w'=>e=.returned (.int .i64 (Cn.us l:Int))/\w.drewN m=w':=fun m=>Cn.used_any A n c l _ (by omega) (hrd.drewN m)
 have HU:=Lib.hid hu;have hln:l.length=n:=by simpa using hrd.len
 have hub:Cn.us l<=257:=by
  unfold Cn.us;exact Nat.le_trans (List.countP_le_length) (by omega)
 clear hi hu hok hrd hln
 go_enter Tryz.func123, Tryz.ntmps123
 go_wp2_with fail
 refine HI.out.mono ?_;rintro e1 w1 ⟨rfl,m,rfl⟩;go_wp2_with fail
 generalize Cn.us l=u at *
 have p15: ¬ (32768:Int)<(u:Int):=by omega
 go_quiet ((go_at_call 128;exact(HU.out _).mono fun _ _ h=>⟨h.1,_,h.2.symm⟩))
 go_wp2_with fail
 go_ret
 exact⟨rfl,_,rfl⟩
end Ln
end Go.Proofs.YtjligbmickfbdaaGreat
