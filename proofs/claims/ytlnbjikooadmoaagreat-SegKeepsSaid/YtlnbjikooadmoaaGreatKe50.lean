/- record.Check. Slices of records (structs of three cells). record.Row. record.Put. head.numbers. head.Put. strings.HasPrefix; scan.begun. seg: create. seg: create, step by step. seg: Create. take.Caught at block.peek$1. take: the first byte. record.Join. record.Get. block: what its functions compute: plain lists, no program. block.peek$1: what stands ahead of a block's records is taken. -/
import Derived.Test.YtlnbjikooadmoaaGreatKe49
import Derived.Test.YtlnbjikooadmoaaGreatKe40
import Derived.Deep.LoopGhost
import Derived.Test.YtlnbjikooadmoaaGreatKe43
import Derived.Test.YtlnbjikooadmoaaGreatKe41
namespace Go.Proofs.YtlnbjikooadmoaaGreat
namespace Rd
open Go.RowKit Vi
def rv (r:Int×Int×ByteArray):Value:=.agg #[.int .i64 r.1,.int .i64 r.2.1,.string r.2.2]
def cE (r:Int×Int×ByteArray):Int:=if ok1 r=true then 0 else 150
theorem cE_ok {r:Int×Int×ByteArray} (h:ok1 r=true):cE r=0:=if_pos h
theorem cE_no {r:Int×Int×ByteArray} (h: ¬ ok1 r=true):cE r=150:=if_neg h
set_option maxHeartbeats 3200000 in
theorem check_any (q t:Int) (d:ByteArray) (w:World) :
  Calls Tryz.prog 68 #[.agg #[.int .i64 q,.int .i64 t,.string d]] w fun e w'=>e=.returned (.int .i64 (cE (q,t,d)))/\Below w.heap.size w w':=by
 by_cases h:ok1 (q,t,d)=true
 ·rw[cE_ok h]
  rw[ok1_iff] at h
  simp only at h
  have h1: ¬ q<1:=by omega
  have h2: ¬ 1000000000<q:=by omega
  have h3: ¬ t<0:=by omega
  have h4: ¬ 1000000000<t:=by omega
  have h5: ¬ (2000:Int)<(d.size:Int):=by omega
  clear h
  go_enter Tryz.func68, Tryz.ntmps68
  go_wp2_with fail
  go_ret
  exact⟨rfl,ext_alloc w _⟩
 ·rw[cE_no h]
  rw[ok1_iff] at h
  simp only at h
  by_cases h1:q<1
  ·go_enter Tryz.func68, Tryz.ntmps68
   go_wp2_with fail
   go_ret
   exact⟨rfl,ext_alloc w _⟩
  by_cases h2:1000000000<q
  ·go_enter Tryz.func68, Tryz.ntmps68
   go_wp2_with fail
   go_ret
   exact⟨rfl,ext_alloc w _⟩
  by_cases h3:t<0
  ·go_enter Tryz.func68, Tryz.ntmps68
   go_wp2_with fail
   go_ret
   exact⟨rfl,ext_alloc w _⟩
  by_cases h4:1000000000<t
  ·go_enter Tryz.func68, Tryz.ntmps68
   go_wp2_with fail
   go_ret
   exact⟨rfl,ext_alloc w _⟩
  have h5:(2000:Int)<(d.size:Int):=by omega
  go_enter Tryz.func68, Tryz.ntmps68
  go_wp2_with fail
  go_ret
  exact⟨rfl,ext_alloc w _⟩
end Rd
end Go.Proofs.YtlnbjikooadmoaaGreat
namespace Go.Proofs.YtlnbjikooadmoaaGreat
namespace Rd
open Go.RowKit
def cl3 (r:Int×Int×ByteArray):List Value:=[.int .i64 r.1,.int .i64 r.2.1,.string r.2.2]
def fl3 (l:List (Int×Int×ByteArray)):List Value:=l.flatMap cl3
theorem fl3_cons (r:Int×Int×ByteArray) (l:List (Int×Int×ByteArray)):fl3 (r::l)=.int .i64 r.1:: .int .i64 r.2.1:: .string r.2.2::fl3 l:=rfl
theorem length_fl3 (l:List (Int×Int×ByteArray)):(fl3 l).length=l.length*3:=by
 induction l with
 |nil=>rfl
 |cons x l ih=>rw[fl3_cons,List.length_cons,List.length_cons,List.length_cons,List.length_cons,ih];omega
theorem fl3_append (a b:List (Int×Int×ByteArray)):fl3 (a++b)=fl3 a++fl3 b:=List.flatMap_append ..
theorem fl3_at (l:List (Int×Int×ByteArray)) (k:Nat) (x:Int×Int×ByteArray) (h:l[k]? =some x) :
  (fl3 l)[k*3]? =some (.int .i64 x.1)/\(fl3 l)[k*3+1]? =some (.int .i64 x.2.1)/\(fl3 l)[k*3+2]? =some (.string x.2.2):=by
 induction l generalizing k with
 |nil=>simp at h
 |cons y l ih =>
  rw[fl3_cons]
  rcases k with _|k
  ·simp at h;subst h;exact⟨rfl,rfl,rfl⟩
  ·have:=ih k (by simpa using h)
   rw[show(k+1)*3=k*3+1+1+1 by omega]
   simpa using this
theorem rec3 {w:World} {B n k:Nat} {A:Option Addr} {l:List (Int×Int×ByteArray)} (h:Rd w B 3 A n (fl3 l)) (hk:k<n) :
  ∃ad q t d,A=some ad/\ad.block<B/\l[k]? =some (q,t,d)/\w.cell? (ad.add (k*3))=some (.int .i64 q)/\w.cell? ⟨(ad.add (k*3)).block,(ad.add (k*3)).off+1,none⟩=some (.int .i64 t)/\w.cell? ⟨(ad.add (k*3)).block,(ad.add (k*3)).off+2,none⟩=some (.string d):=by
 obtain⟨ad,e,hb,hc⟩:=h.cells (by omega)
 have hl:l.length=n:=by have:=h.len;rw[length_fl3] at this;omega
 obtain⟨⟨q,t,d⟩,hx⟩:∃x,l[k]? =some x:=⟨l[k]'(by omega),List.getElem?_eq_getElem (by omega)⟩
 obtain⟨h1,h2,h3⟩:=fl3_at l k _ hx
 exact⟨ad,q,t,d,e,hb,hx,hc _ _ h1,by have:=hc _ _ h2;rw[<-add_add] at this;exact this,by have:=hc _ _ h3;rw[<-add_add] at this;exact this⟩
theorem rd3_len {w:World} {B n:Nat} {A:Option Addr} {l:List (Int×Int×ByteArray)} (h:Rd w B 3 A n (fl3 l)):l.length=n:=by
 have:=h.len;rw[length_fl3] at this;omega
def pv (l:List (Int×Int×ByteArray)) (k:Nat):Option (Int×Int×ByteArray):=if k=0 then none else l[k-1]?
theorem row_no {l:List (Int×Int×ByteArray)} {k:Nat} {r:Int×Int×ByteArray} (h:l[k]? =some r) (ho: ¬ ok1 r=true):rowE (pv l k) (l.drop k)=150:=by
 rw[drop_at l k r h,rowE,if_pos (by simpa using ho)]
theorem row_off {l:List (Int×Int×ByteArray)} {k:Nat} {r p:Int×Int×ByteArray} (h:l[k+1]? =some r) (hp:l[k]? =some p) (ho:ok1 r=true) (hf:r.1≠p.1+1∨r.2.1<p.2.1):rowE (pv l (k+1)) (l.drop (k+1))=151:=by
 have e:pv l (k+1)=some p:=by unfold pv;rw[if_neg (by omega),Nat.add_sub_cancel,hp]
 rw[drop_at l (k+1) r h,rowE,if_neg (by simp[ho]),e,if_pos (by simp[off];omega)]
theorem row_on {l:List (Int×Int×ByteArray)} {k:Nat} {r p:Int×Int×ByteArray} (h:l[k+1]? =some r) (hp:l[k]? =some p) (ho:ok1 r=true) (hf: ¬ (r.1≠p.1+1∨r.2.1<p.2.1)) :
  rowE (pv l (k+1)) (l.drop (k+1))=rowE (pv l (k+2)) (l.drop (k+2)):=by
 have e:pv l (k+1)=some p:=by unfold pv;rw[if_neg (by omega),Nat.add_sub_cancel,hp]
 have e2:pv l (k+2)=some r:=by unfold pv;rw[if_neg (by omega),show k+2-1=k+1 by omega,h]
 rw[drop_at l (k+1) r h,rowE,if_neg (by simp[ho]),e,if_neg (by simp[off];omega),e2]
theorem row_on0 {l:List (Int×Int×ByteArray)} {r:Int×Int×ByteArray} (h:l[0]? =some r) (ho:ok1 r=true):rowE (pv l 0) (l.drop 0)=rowE (pv l 1) (l.drop 1):=by
 have e2:pv l 1=some r:=by unfold pv;rw[if_neg (by omega)];exact h
 rw[drop_at l 0 r h,rowE,if_neg (by simp[ho]),e2];rfl
theorem row_end {l:List (Int×Int×ByteArray)} {k:Nat} (h:l.length<=k):rowE (pv l k) (l.drop k)=0:=by rw[List.drop_eq_nil_of_le h];rfl
end Rd
end Go.Proofs.YtlnbjikooadmoaaGreat
namespace Go.Proofs.YtlnbjikooadmoaaGreat
namespace Rd
open Go.RowKit
set_option maxHeartbeats 6400000 in
set_option maxRecDepth 100000 in
theorem row_any (A:Option Addr) (n c:Nat) (l:List (Int×Int×ByteArray)) (w:World) (hrd:Rd w w.heap.size 3 A n (fl3 l)) (hn:n<=1099511627776) :
  Calls Tryz.prog 26 #[.slice A n c] w fun e w'=>e=.returned (.int .i64 (rowE none l))/\Below w.heap.size w w':=by
 have mixed:Tryz.prog.follows .mixedOrders=true:=by kernel_rfl
 have hln:=rd3_len hrd
 have HC:=Lib.hid (fun q t d w=>check_any q t d w)
 have HR:=Lib.hid hrd
 clear hrd
 go_enter Tryz.func26, Tryz.ntmps26
 go_wp2_with fail
 go_loopw [8] (fun v wr=>∃k:Nat,v=.int .i64 k/\k<=n/\Hid (rowE (pv l k) (l.drop k)=rowE none l/\(∀j r,j<k->l[j]? =some r->ok1 r=true)/\Below w.heap.size w wr)) (fun v _=>n-(intOf v).toNat)
 case atStart=>exact⟨0,by go_num,by omega,rfl,fun j r h=>absurd h (by omega),Below.refl _ _⟩
 case round =>
  obtain⟨k,rfl,hk,HX⟩:=hrel
  by_cases hkn:k<n
  ·obtain⟨ad,q,t,d,rfl,hbk,hx,hc0,hc1,hc2⟩:=rec3 (HR.out.below HX.out.2.2) hkn
   by_cases ho:ok1 (q,t,d)=true
   ·have hce:=cE_ok ho
    have hok:∀j r,j<k+1->l[j]? =some r->ok1 r=true:=by
     intro j r hj hr
     rcases Nat.lt_or_ge j k with h|h
     ·exact HX.out.2.1 j r h hr
     ·obtain rfl:j=k:=by omega
      rw[hx] at hr;cases hr;exact ho
    have HOK:=Lib.hid hok
    clear hok
    rcases k with _|k
    ·have HRE:=Lib.hid ((row_on0 hx ho).symm.trans HX.out.1)
     have hz:ad.add (0*3)=ad:=by rw[Nat.zero_mul];rfl
     rw[hz] at hc0 hc1 hc2
     clear hz
     have HB:=Lib.hid HX.out.2.2
     go_wp2_with fail
     refine(HC.out _ _ _ _).mono ?_
     rintro e1 w1 ⟨rfl,hb1⟩
     rw[hce]
     have HB1:=Lib.hid (ext_trans HB.out (ext_trans (ext_alloc wr _) hb1))
     clear hc0 hc1 hc2 hb1 hx HX HB HC
     go_wp2_with fail
     go_quiet (fail)
     go_wp2_with fail
     exact⟨⟨1,by go_num,by omega,HRE.out,HOK.out,below_drewN HB1.out _⟩,by simp[intOf];omega⟩
    ·obtain⟨ad',q',t',d',e',hbk',hx',hc0',hc1',-⟩:=rec3 (HR.out.below HX.out.2.2) (show k<n by omega)
     obtain rfl:ad=ad':=by simpa using e'
     have hp:=HX.out.2.1 k _ (by omega) hx'
     rw[ok1_iff] at hp
     simp only at hp
     have hp1:=hp.1
     have hp2:=hp.2.1
     have i1:(((k+1:Nat):Int)-1)=((k:Nat):Int):=by omega
     have i2:(0:Int)<((k+1:Nat):Int):=by omega
     have i3:(k:Int)<(n:Int):=by omega
     have i4:(0:Int)<=(k:Int):=by omega
     have i5:IntKind.i64.wrap (k:Int)=(k:Int):=by rw[IntKind.wrap_i64];omega
     have i6:IntKind.i64.wrap (q'+1)=q'+1:=by rw[IntKind.wrap_i64];omega
     clear hp e'
     by_cases hf1:q=q'+1
     ·subst hf1
      by_cases hf2:t<t'
      ·have HRE:=Lib.hid ((row_off hx hx' ho (.inr hf2)).symm.trans HX.out.1)
       have HB:=Lib.hid HX.out.2.2
       go_wp2_with fail
       refine(HC.out _ _ _ _).mono ?_
       rintro e1 w1 ⟨rfl,hb1⟩
       rw[hce]
       have hh:∀p:Addr,p.block<w.heap.size->w1.cell? p=wr.cell? p:=fun p hp=>(hb1.cell (by simp;have:=HB.out.size;omega)).trans (World.cell?_alloc_lt wr _ p (by have:=HB.out.size;omega))
       have c0:w1.cell? ⟨wr.heap.size,0,none⟩=some (.int .i64 (q'+1)):=by rw[hb1.cell (p:=⟨wr.heap.size,0,none⟩) (by simp),World.cell?_alloc_new];rfl
       have c1:w1.cell? ⟨wr.heap.size,1,none⟩=some (.int .i64 t):=by rw[hb1.cell (p:=⟨wr.heap.size,1,none⟩) (by simp),World.cell?_alloc_new];rfl
       have d0:=(hh _ (by rw[add_block];exact hbk')).trans hc0'
       have d1:=(hh ⟨(ad.add (k*3)).block,(ad.add (k*3)).off+1,none⟩ (by rw[add_block];exact hbk')).trans hc1'
       have HB1:=Lib.hid (ext_trans HB.out (ext_trans (ext_alloc wr _) hb1))
       clear hc0 hc1 hc2 hc0' hc1' hb1 hh hx hx' HX HB HC
       go_wp2_with fail
       go_quiet (fail)
       go_wp2_with fail
       go_ret
       exact⟨ret_int HRE.out,below_drewN HB1.out _⟩
      ·have HRE:=Lib.hid ((row_on hx hx' ho (by simp only;omega)).symm.trans HX.out.1)
       have HB:=Lib.hid HX.out.2.2
       go_wp2_with fail
       refine(HC.out _ _ _ _).mono ?_
       rintro e1 w1 ⟨rfl,hb1⟩
       rw[hce]
       have hh:∀p:Addr,p.block<w.heap.size->w1.cell? p=wr.cell? p:=fun p hp=>(hb1.cell (by simp;have:=HB.out.size;omega)).trans (World.cell?_alloc_lt wr _ p (by have:=HB.out.size;omega))
       have c0:w1.cell? ⟨wr.heap.size,0,none⟩=some (.int .i64 (q'+1)):=by rw[hb1.cell (p:=⟨wr.heap.size,0,none⟩) (by simp),World.cell?_alloc_new];rfl
       have c1:w1.cell? ⟨wr.heap.size,1,none⟩=some (.int .i64 t):=by rw[hb1.cell (p:=⟨wr.heap.size,1,none⟩) (by simp),World.cell?_alloc_new];rfl
       have d0:=(hh _ (by rw[add_block];exact hbk')).trans hc0'
       have d1:=(hh ⟨(ad.add (k*3)).block,(ad.add (k*3)).off+1,none⟩ (by rw[add_block];exact hbk')).trans hc1'
       have HB1:=Lib.hid (ext_trans HB.out (ext_trans (ext_alloc wr _) hb1))
       clear hc0 hc1 hc2 hc0' hc1' hb1 hh hx hx' HX HB HC
       go_wp2_with fail
       go_quiet (fail)
       go_wp2_with fail
       exact⟨⟨k+2,by go_num,by omega,HRE.out,HOK.out,below_drewN HB1.out _⟩,by simp[intOf];omega⟩
     ·have HRE:=Lib.hid ((row_off hx hx' ho (.inl hf1)).symm.trans HX.out.1)
      have HB:=Lib.hid HX.out.2.2
      go_wp2_with fail
      refine(HC.out _ _ _ _).mono ?_
      rintro e1 w1 ⟨rfl,hb1⟩
      rw[hce]
      have hh:∀p:Addr,p.block<w.heap.size->w1.cell? p=wr.cell? p:=fun p hp=>(hb1.cell (by simp;have:=HB.out.size;omega)).trans (World.cell?_alloc_lt wr _ p (by have:=HB.out.size;omega))
      have c0:w1.cell? ⟨wr.heap.size,0,none⟩=some (.int .i64 q):=by rw[hb1.cell (p:=⟨wr.heap.size,0,none⟩) (by simp),World.cell?_alloc_new];rfl
      have c1:w1.cell? ⟨wr.heap.size,1,none⟩=some (.int .i64 t):=by rw[hb1.cell (p:=⟨wr.heap.size,1,none⟩) (by simp),World.cell?_alloc_new];rfl
      have d0:=(hh _ (by rw[add_block];exact hbk')).trans hc0'
      have d1:=(hh ⟨(ad.add (k*3)).block,(ad.add (k*3)).off+1,none⟩ (by rw[add_block];exact hbk')).trans hc1'
      have HB1:=Lib.hid (ext_trans HB.out (ext_trans (ext_alloc wr _) hb1))
      clear hc0 hc1 hc2 hc0' hc1' hb1 hh hx hx' HX HB HC
      go_wp2_with fail
      go_quiet (fail)
      go_wp2_with fail
      go_ret
      exact⟨ret_int HRE.out,below_drewN HB1.out _⟩
   ·have hce:=cE_no ho
    have HRE:=Lib.hid ((row_no hx ho).symm.trans HX.out.1)
    have HB:=Lib.hid HX.out.2.2
    go_wp2_with fail
    refine(HC.out _ _ _ _).mono ?_
    rintro e1 w1 ⟨rfl,hb1⟩
    rw[hce]
    have HB1:=Lib.hid (ext_trans HB.out (ext_trans (ext_alloc wr _) hb1))
    clear hc0 hc1 hc2 hb1 hx HX HB HC
    go_wp2_with fail
    go_ret
    exact⟨ret_int HRE.out,HB1.out⟩
  ·obtain rfl:k=n:=by omega
   have HRE:=Lib.hid ((row_end (l:=l) (k:=k) (by omega)).symm.trans HX.out.1)
   have HB:=Lib.hid HX.out.2.2
   clear HX HC
   go_wp2_with fail
   go_ret
   exact⟨ret_int HRE.out,HB.out⟩
end Rd
end Go.Proofs.YtlnbjikooadmoaaGreat
namespace Go.Proofs.YtlnbjikooadmoaaGreat
namespace Rd
open Go.RowKit Vi Bd
theorem Bb_below {w w':World} {B b:Nat} {l:List UInt8} (h:Bb w B b l) (hb:Below w.heap.size w w'):Bb w' B b l:=h.keep hb.size fun k _ hk=>hb.block k hk
theorem vtxt_list (n:Nat):(vtxt n).data.toList=putV n:=by simp[vtxt]
theorem vtxt_size (n:Nat):(vtxt n).size=(putV n).length:=by simp[vtxt,ByteArray.size]
def acc3 (q t d k:Nat):List UInt8:=([q,t,d].take k).flatMap putV
set_option maxHeartbeats 6400000 in
set_option maxRecDepth 100000 in
theorem rput_any (q t:Nat) (d:ByteArray) (w:World) (h:ok1 ((q:Int),(t:Int),d)=true) :
  Calls Tryz.prog 69 #[.agg #[.int .i64 (q:Int),.int .i64 (t:Int),.string d]] w fun e w'=>e=.returned (.tuple #[.string ⟨(recB ((q:Int),(t:Int),d)).toArray⟩,.int .i64 0])/\Below w.heap.size w w':=by
 have mixed:Tryz.prog.follows .mixedOrders=true:=by kernel_rfl
 have hc:=check_any q t d
 simp only[cE_ok h] at hc
 have HC:=Lib.hid hc
 rw[ok1_iff] at h
 simp only at h
 have l1:(putV q).length<=9:=length_putV_le q 8 (by omega)
 have l2:(putV t).length<=9:=length_putV_le t 8 (by omega)
 have l3:(putV d.size).length<=9:=length_putV_le d.size 8 (by omega)
 have P1:=Lib.hid (fun w=>put_any q w (by omega))
 have P2:=Lib.hid (fun w=>put_any t w (by omega))
 have P3:=Lib.hid (fun w=>put_any d.size w (by omega))
 have hsz:d.size<=2000:=h.2.2.2.2
 have hac:acc3 q t d.size 3++d.data.toList=recB ((q:Int),(t:Int),d):=by simp[acc3,recB]
 have HAC:=Lib.hid hac
 clear hc h hac
 go_enter Tryz.func69, Tryz.ntmps69
 go_wp2_with fail
 refine(HC.out _).mono ?_
 rintro e1 w1 ⟨rfl,hb1⟩
 have cc:∀j,w1.cell? ⟨w.heap.size,j,none⟩=(w.alloc (.cells #[.int .i64 (q:Int),.int .i64 (t:Int),.string d] 31)).cell? ⟨w.heap.size,j,none⟩:=fun j=>hb1.cell (p:=⟨w.heap.size,j,none⟩) (by simp)
 have c0:w1.cell? ⟨w.heap.size,0,none⟩=some (.int .i64 (q:Int)):=by rw[cc,World.cell?_alloc_new];rfl
 have c1:w1.cell? ⟨w.heap.size,1,none⟩=some (.int .i64 (t:Int)):=by rw[cc,World.cell?_alloc_new];rfl
 have c2:w1.cell? ⟨w.heap.size,2,none⟩=some (.string d):=by rw[cc,World.cell?_alloc_new];rfl
 have hlt:w.heap.size<w1.heap.size:=by have:=hb1.size;simp at this;omega
 have hbb:=bb_new w1
 have hd2:∀o:Obj,(w1.alloc o).cell? ⟨w.heap.size,2,none⟩=some (.string d):=fun o=>(World.cell?_alloc_lt w1 o ⟨w.heap.size,2,none⟩ hlt).trans c2
 have hd1:∀o:Obj,(w1.alloc o).cell? ⟨w.heap.size,1,none⟩=some (.int .i64 (t:Int)):=fun o=>(World.cell?_alloc_lt w1 o ⟨w.heap.size,1,none⟩ hlt).trans c1
 have hd0:∀o:Obj,(w1.alloc o).cell? ⟨w.heap.size,0,none⟩=some (.int .i64 (q:Int)):=fun o=>(World.cell?_alloc_lt w1 o ⟨w.heap.size,0,none⟩ hlt).trans c0
 have HB:=Lib.hid (show Below w.heap.size w (w1.alloc (.cells #[.pointer none,.slice none 0 0] 120)) from(ext_trans (ext_alloc w _) hb1).alloc (by omega) _)
 have HBB:=Lib.hid hbb
 clear hb1 cc HC hbb
 generalize hB:w1.heap.size=B at *
 have hB2:B<=(w1.alloc (.cells #[.pointer none,.slice none 0 0] 120)).heap.size:=by simp;omega
 have e0:=hd0 (.cells #[.pointer none,.slice none 0 0] 120)
 have e1:=hd1 (.cells #[.pointer none,.slice none 0 0] 120)
 have e2:=hd2 (.cells #[.pointer none,.slice none 0 0] 120)
 go_wp2_with fail
 clear hB c0 c1 c2 hd0 hd1 hd2 e0 e1
 generalize w1.alloc (.cells #[.pointer none,.slice none 0 0] 120)=w4 at *
 have i0:∀w:World,(Instr.index 56 (.agg #[.int .i64 (q:Int),.int .i64 (t:Int),.int .i64 (d.size:Int)]) (.int .i64 0)).run Tryz.prog w=.ok (.int .i64 (q:Int)) w:=fun _=>by kernel_rfl
 have i1:∀w:World,(Instr.index 56 (.agg #[.int .i64 (q:Int),.int .i64 (t:Int),.int .i64 (d.size:Int)]) (.int .i64 1)).run Tryz.prog w=.ok (.int .i64 (t:Int)) w:=fun _=>by kernel_rfl
 have i2:∀w:World,(Instr.index 56 (.agg #[.int .i64 (q:Int),.int .i64 (t:Int),.int .i64 (d.size:Int)]) (.int .i64 2)).run Tryz.prog w=.ok (.int .i64 (d.size:Int)) w:=fun _=>by kernel_rfl
 go_loopw [23] (fun v wr=>∃k:Nat,v=.int .i64 k/\k<=3/\Hid (Bb wr B B (acc3 q t d.size k)/\Below B w4 wr/\B<=wr.heap.size)) (fun v _=>3-(intOf v).toNat)
 case atStart=>exact⟨0,by go_num,by omega,HBB.out,Below.refl _ _,hB2⟩
 case round =>
  obtain⟨k,rfl,hk,HX⟩:=hrel
  by_cases hk3:k<3
  ·obtain rfl|rfl|rfl:k=0∨k=1∨k=2:=by omega
   ·skip
    go_wp2_with fail
    refine(P1.out _).mono ?_
    rintro e2 w2 ⟨rfl,hb2⟩
    have HB2:=Lib.hid hb2
    have hbb:=Bb_below HX.out.1 hb2
    have hW:=write_any B B (acc3 q t d.size 0) (vtxt q) w2 hbb (by rw[vtxt_size];unfold acc3;simp;omega) (by have:=HX.out.2.2;have:=hb2.size;omega)
    rw[vtxt_list] at hW
    have HW:=Lib.hid hW
    clear hW hbb hb2
    go_wp2_with fail
    refine HW.out.mono ?_
    rintro e3 w3 ⟨rfl,hbb3,hb3⟩
    have hacc:acc3 q t d.size 0++putV q=acc3 q t d.size (0+1):=by simp[acc3]
    rw[hacc] at hbb3
    have HX3:=Lib.hid (show Bb w3 B B (acc3 q t d.size (0+1))/\Below B w4 w3/\B<=w3.heap.size from⟨hbb3,(HX.out.2.1.trans (HB2.out.mono HX.out.2.2)).trans hb3,by have:=hb3.size;have:=HB2.out.size;have:=HX.out.2.2;omega⟩)
    clear hbb3 hb3 hacc HW HB2 HX
    go_wp2_with fail
    exact⟨⟨0+1,by go_num,by omega,HX3.out⟩,by simp[intOf]⟩
   ·skip
    go_wp2_with fail
    refine(P2.out _).mono ?_
    rintro e2 w2 ⟨rfl,hb2⟩
    have HB2:=Lib.hid hb2
    have hbb:=Bb_below HX.out.1 hb2
    have hW:=write_any B B (acc3 q t d.size 1) (vtxt t) w2 hbb (by rw[vtxt_size];unfold acc3;simp;omega) (by have:=HX.out.2.2;have:=hb2.size;omega)
    rw[vtxt_list] at hW
    have HW:=Lib.hid hW
    clear hW hbb hb2
    go_wp2_with fail
    refine HW.out.mono ?_
    rintro e3 w3 ⟨rfl,hbb3,hb3⟩
    have hacc:acc3 q t d.size 1++putV t=acc3 q t d.size (1+1):=by simp[acc3]
    rw[hacc] at hbb3
    have HX3:=Lib.hid (show Bb w3 B B (acc3 q t d.size (1+1))/\Below B w4 w3/\B<=w3.heap.size from⟨hbb3,(HX.out.2.1.trans (HB2.out.mono HX.out.2.2)).trans hb3,by have:=hb3.size;have:=HB2.out.size;have:=HX.out.2.2;omega⟩)
    clear hbb3 hb3 hacc HW HB2 HX
    go_wp2_with fail
    exact⟨⟨1+1,by go_num,by omega,HX3.out⟩,by simp[intOf]⟩
   ·skip
    go_wp2_with fail
    refine(P3.out _).mono ?_
    rintro e2 w2 ⟨rfl,hb2⟩
    have HB2:=Lib.hid hb2
    have hbb:=Bb_below HX.out.1 hb2
    have hW:=write_any B B (acc3 q t d.size 2) (vtxt d.size) w2 hbb (by rw[vtxt_size];unfold acc3;simp;omega) (by have:=HX.out.2.2;have:=hb2.size;omega)
    rw[vtxt_list] at hW
    have HW:=Lib.hid hW
    clear hW hbb hb2
    go_wp2_with fail
    refine HW.out.mono ?_
    rintro e3 w3 ⟨rfl,hbb3,hb3⟩
    have hacc:acc3 q t d.size 2++putV d.size=acc3 q t d.size (2+1):=by simp[acc3]
    rw[hacc] at hbb3
    have HX3:=Lib.hid (show Bb w3 B B (acc3 q t d.size (2+1))/\Below B w4 w3/\B<=w3.heap.size from⟨hbb3,(HX.out.2.1.trans (HB2.out.mono HX.out.2.2)).trans hb3,by have:=hb3.size;have:=HB2.out.size;have:=HX.out.2.2;omega⟩)
    clear hbb3 hb3 hacc HW HB2 HX
    go_wp2_with fail
    exact⟨⟨2+1,by go_num,by omega,HX3.out⟩,by simp[intOf]⟩
  ·obtain rfl:k=3:=by omega
   have hcd:=(HX.out.2.1.cell (p:=⟨w.heap.size,2,none⟩) hlt).trans e2
   have hW:=write_any B B (acc3 q t d.size 3) d wr HX.out.1 (by unfold acc3;simp;omega) HX.out.2.2
   rw[HAC.out] at hW
   have HW:=Lib.hid hW
   clear hW
   go_wp2_with fail
   refine HW.out.mono ?_
   rintro e3 w3 ⟨rfl,hbb3,hb3⟩
   have HS:=Lib.hid (string_any B B _ w3 hbb3 (by have:=hb3.size;have:=HX.out.2.2;omega))
   have HB3:=Lib.hid ((HX.out.2.1).trans hb3)
   clear hbb3 hb3 HW
   go_wp2_with fail
   refine HS.out.mono ?_
   rintro e4 w5 ⟨rfl,hb4⟩
   have HB5:=Lib.hid (HB.out.trans ((HB3.out.trans hb4).mono (by omega)))
   clear hb4 HS HB3 hcd
   go_wp2_with fail
   go_ret2
   exact⟨rfl,HB5.out⟩
end Rd
end Go.Proofs.YtlnbjikooadmoaaGreat
namespace Go.Proofs.YtlnbjikooadmoaaGreat
namespace Hd
open Go.RowKit Vi Bd Rd
def nv (l:List Nat):List Value:=l.map fun(n:Nat)=>Value.int .i64 (n:Int)
theorem flat_take (l:List Nat) (k x:Nat) (h:l[k]? =some x):(l.take (k+1)).flatMap putV=(l.take k).flatMap putV++putV x:=by
 rw[List.take_add_one,h,List.flatMap_append];simp
theorem flat_len:∀(l:List Nat),(∀x∈l,x<9223372036854775808)->(l.flatMap putV).length<=9*l.length
 | [],_=>by simp
 |x::l,h=>by
  have h1:=flat_len l (fun y hy=>h y (List.mem_cons_of_mem _ hy))
  have h2:=length_putV_le x 8 (by have:=h x (List.mem_cons_self ..);have:(128:Nat)^(8+1)=9223372036854775808:=by decide
                                  omega)
  rw[List.flatMap_cons,List.length_append,List.length_cons];omega
set_option maxHeartbeats 3200000 in
set_option maxRecDepth 100000 in
theorem numbers_any (A:Option Addr) (n c:Nat) (l:List Nat) (w:World) (hrd:Rd w w.heap.size 1 A n (nv l)) (hn:n<=100000) (hl:∀x∈l,x<9223372036854775808) :
  Calls Tryz.prog 81 #[.slice A n c] w fun e w'=>e=.returned (.tuple #[.string ⟨(l.flatMap putV).toArray⟩,.int .i64 0])/\Below w.heap.size w w':=by
 have mixed:Tryz.prog.follows .mixedOrders=true:=by kernel_rfl
 have hbb:=bb_new w
 have HB:=Lib.hid (ext_alloc w (.cells #[.pointer none,.slice none 0 0] 120))
 have HBB:=Lib.hid hbb
 clear hbb
 go_enter Tryz.func81, Tryz.ntmps81
 go_wp2_with fail
 generalize w.alloc (.cells #[.pointer none,.slice none 0 0] 120)=w4 at *
 have hln:l.length=n:=by have:=hrd.len;simpa[nv] using this
 have HL:=Lib.hid hl
 have HLN:=Lib.hid hln
 have HR:=Lib.hid hrd
 have HSZ:=Lib.hid (flat_len l hl)
 clear hl hln hrd
 go_loopg [11] n (fun kx s11 wr=>∃k:Nat,s11=.int .i64 (k:Int)/\k<=n/\n-k<=kx/\Hid (Bb wr w.heap.size w.heap.size ((l.take k).flatMap putV)/\Below w.heap.size w wr))
 case atStart=>exact⟨0,rfl,by omega,by omega,Lib.hid ⟨HBB.out,HB.out⟩⟩
 case round =>
  clear HBB HB
  obtain⟨k,rfl,hk,hkx,H⟩:=hrel
  by_cases hlt:k<n
  ·have hlk:k<l.length:=by rw[HLN.out];exact hlt
   obtain⟨ad,hA,hbk,hc⟩:=(HR.out.ext H.out.2).cells (by omega)
   have hx:l[k]? =some l[k]:=List.getElem?_eq_getElem hlk
   have hcell:=hc k (.int .i64 ((l[k]:Nat):Int)) (by unfold nv;rw[List.getElem?_map,hx];rfl)
   have hxl:=HL.out l[k] (List.getElem_mem hlk)
   have HFT:=Lib.hid (flat_take l k l[k] hx)
   have HTL:=Lib.hid (show((l.take k).flatMap putV).length<=9*n by
    have:=flat_len (l.take k) (fun x hx=>HL.out x (List.mem_of_mem_take hx));rw[List.length_take] at this;omega)
   have HVL:=Lib.hid (length_putV_le l[k] 8 (by have:(128:Nat)^(8+1)=9223372036854775808:=by decide
                                                omega))
   subst hA
   have hki:(k:Int)<(n:Int):=by omega
   clear hc hbk hx
   generalize l[k]=x at *
   have HP:=Lib.hid (put_any x wr hxl)
   clear hlk
   go_wp2_with fail
   refine HP.out.mono ?_
   rintro e2 w2 ⟨rfl,hb2⟩
   have hW:=write_any w.heap.size w.heap.size _ (vtxt x) w2 (Bb_below H.out.1 hb2) (by rw[vtxt_size];have:=HTL.out;have:=HVL.out;omega) (by have:=H.out.2.size;have:=hb2.size;omega)
   rw[vtxt_list,<-HFT.out] at hW
   have HW:=Lib.hid hW
   have HB2:=Lib.hid (H.out.2.trans (hb2.mono H.out.2.size))
   clear hW hb2 H
   go_wp2_with fail
   refine HW.out.mono ?_
   rintro e3 w3 ⟨rfl,hbb3,hb3⟩
   have H3:=Lib.hid (And.intro hbb3 (HB2.out.trans hb3))
   clear hbb3 hb3 HW
   go_wp2_with fail
   go_roundg (n-(k+1))
   case measure=>omega
   case rel=>exact⟨k+1,by go_num,by omega,by omega,H3⟩
  ·obtain rfl:k=n:=by omega
   have h9:=H.out
   rw[List.take_of_length_le (by rw[HLN.out];omega)] at h9
   have HS:=Lib.hid (Tryz.Builder_String_any w.heap.size w.heap.size _ wr h9.1 h9.2.size)
   have HB2:=Lib.hid h9.2
   clear h9 H
   go_wp2_with fail
   refine HS.out.mono ?_
   rintro e5 w5 ⟨rfl,hb5⟩
   have HB5:=Lib.hid (HB2.out.trans hb5)
   clear hb5
   go_wp2_with fail
   go_ret2
   exact⟨rfl,HB5.out⟩
end Hd
end Go.Proofs.YtlnbjikooadmoaaGreat
namespace Go.Proofs.YtlnbjikooadmoaaGreat
namespace Hd
open Go.RowKit Vi Bd Rd
def hb (i g f:Nat):ByteArray:=⟨(putV i++(putV g++putV f)).toArray⟩
set_option maxHeartbeats 3200000 in
set_option maxRecDepth 100000 in
theorem hput_yes (i g f:Nat) (w:World) (h:1<=i/\i<=999999/\1<=g/\g<=999999/\1<=f/\f<=1000000000) :
  Calls Tryz.prog 32 #[.agg #[.int .i64 (i:Int),.int .i64 (g:Int),.int .i64 (f:Int)]] w fun e w'=>e=.returned (.tuple #[.string (hb i g f),.int .i64 0])/\Below w.heap.size w w':=by
 have mixed:Tryz.prog.follows .mixedOrders=true:=by kernel_rfl
 have HC:=Lib.hid (check_yes i g f (w.alloc (.cells #[.int .i64 (i:Int),.int .i64 (g:Int),.int .i64 (f:Int)] 33)) (by omega))
 have HB:=Lib.hid (ext_alloc w (.cells #[.int .i64 (i:Int),.int .i64 (g:Int),.int .i64 (f:Int)] 33))
 have HN:=Lib.hid (show ∀x∈ [i,g,f],x<9223372036854775808 by intro x hx;simp at hx;omega)
 have k0:(w.alloc (.cells #[.int .i64 (i:Int),.int .i64 (g:Int),.int .i64 (f:Int)] 33)).cell? ⟨w.heap.size,0,none⟩=some (.int .i64 (i:Int)):=by rw[World.cell?_alloc_new];rfl
 have k1:(w.alloc (.cells #[.int .i64 (i:Int),.int .i64 (g:Int),.int .i64 (f:Int)] 33)).cell? ⟨w.heap.size,1,none⟩=some (.int .i64 (g:Int)):=by rw[World.cell?_alloc_new];rfl
 have k2:(w.alloc (.cells #[.int .i64 (i:Int),.int .i64 (g:Int),.int .i64 (f:Int)] 33)).cell? ⟨w.heap.size,2,none⟩=some (.int .i64 (f:Int)):=by rw[World.cell?_alloc_new];rfl
 have hlt:w.heap.size<(w.alloc (.cells #[.int .i64 (i:Int),.int .i64 (g:Int),.int .i64 (f:Int)] 33)).heap.size:=by simp
 have HK:=Lib.hid (And.intro k0 (And.intro k1 (And.intro k2 hlt)))
 clear k0 k1 k2 hlt h
 go_enter Tryz.func32, Tryz.ntmps32
 go_wp2_with fail
 generalize w.alloc (.cells #[.int .i64 (i:Int),.int .i64 (g:Int),.int .i64 (f:Int)] 33)=w0 at *
 refine HC.out.mono ?_
 rintro e1 w1 ⟨rfl,hb1⟩
 have c0:=(hb1.cell (p:=⟨w.heap.size,0,none⟩) HK.out.2.2.2).trans HK.out.1
 have c1:=(hb1.cell (p:=⟨w.heap.size,1,none⟩) HK.out.2.2.2).trans HK.out.2.1
 have c2:=(hb1.cell (p:=⟨w.heap.size,2,none⟩) HK.out.2.2.2).trans HK.out.2.2.1
 have hrd:Rd (w1.alloc (.cells #[.int .i64 (i:Int),.int .i64 (g:Int),.int .i64 (f:Int)] 3)) (w1.alloc (.cells #[.int .i64 (i:Int),.int .i64 (g:Int),.int .i64 (f:Int)] 3)).heap.size 1 (some ⟨w1.heap.size,0,none⟩) 3 (nv [i,g,f]) :=
  Rd.of_own (World.ownsRow_lit (base:=w1.heap.size) (e:=3) (size:=1) w1 #[.int .i64 (i:Int),.int .i64 (g:Int),.int .i64 (f:Int)] 3 (Nat.le_refl _) (by simp[maxLen]) rfl)
 have HNU:=Lib.hid (numbers_any _ 3 3 [i,g,f] _ hrd (by omega) HN.out)
 have HB1:=Lib.hid (HB.out.trans (hb1.mono HB.out.size))
 have HB2:=Lib.hid (HB1.out.trans ((ext_alloc w1 (.cells #[.int .i64 (i:Int),.int .i64 (g:Int),.int .i64 (f:Int)] 3)).mono HB1.out.size))
 clear hb1 hrd HC
 go_wp2_with fail
 refine HNU.out.mono ?_
 rintro e2 w2 ⟨rfl,hb2⟩
 have HB3:=Lib.hid (HB2.out.trans (hb2.mono HB2.out.size))
 clear hb2
 go_wp2_with fail
 go_ret2
 exact⟨rfl,HB3.out⟩
set_option maxHeartbeats 3200000 in
set_option maxRecDepth 100000 in
theorem hput_no (i g f:Int) (w:World) (h:okH i g f=false) :
  Calls Tryz.prog 32 #[.agg #[.int .i64 i,.int .i64 g,.int .i64 f]] w fun e w'=>e=.returned (.tuple #[.string ⟨#[]⟩,.int .i64 210])/\Below w.heap.size w w':=by
 have mixed:Tryz.prog.follows .mixedOrders=true:=by kernel_rfl
 have hc:=check_any i g f (w.alloc (.cells #[.int .i64 i,.int .i64 g,.int .i64 f] 33))
 rw[if_neg (by rw[h];simp)] at hc
 have HC:=Lib.hid hc
 have HB:=Lib.hid (ext_alloc w (.cells #[.int .i64 i,.int .i64 g,.int .i64 f] 33))
 clear hc h
 go_enter Tryz.func32, Tryz.ntmps32
 go_wp2_with fail
 refine HC.out.mono ?_
 rintro e1 w1 ⟨rfl,hb1⟩
 have HB1:=Lib.hid (HB.out.trans (hb1.mono HB.out.size))
 clear hb1 HC
 go_wp2_with fail
 go_ret2
 exact⟨rfl,HB1.out⟩
end Hd
end Go.Proofs.YtlnbjikooadmoaaGreat
namespace Go.Proofs.YtlnbjikooadmoaaGreat
namespace Sn
open Go.RowKit Hd Fm
def preB (s p:ByteArray):Bool:=decide (s.extract 0 p.size=p)
theorem preB_iff (s p:ByteArray):preB s p=true↔s.extract 0 p.size=p:=by unfold preB;rw[decide_eq_true_eq]
set_option maxHeartbeats 1600000 in
set_option maxRecDepth 100000 in
theorem beqL (a b:ByteArray) {r:Bool} (h:decide (a=b)=r):(a.toList==b.toList)=r:=by
 rw[ByteArray.toList_eq,ByteArray.toList_eq]
 subst h
 by_cases hq:a=b
 ·subst hq;simp
 ·rw[decide_eq_false hq,beq_eq_false_iff_ne]
  intro e
  obtain⟨⟨a⟩⟩:=a
  obtain⟨⟨b⟩⟩:=b
  exact hq (by simp only at e;rw[e])
theorem hp1 (s p:ByteArray) (w:World) {b:Bool} (h:preB s p=b):Calls Tryz.prog 154 #[.string s,.string p] w fun e w'=>e=.returned (.bool b)/\w=w':=by
 have mixed:Tryz.prog.follows .mixedOrders=true:=by kernel_rfl
 by_cases hs:p.size<=s.size
 ·have h1:decide (p.size<=s.size)=true:=decide_eq_true hs
  have hb:=Lib.hid (beqL (s.extract 0 p.size) p h)
  clear h
  go_enter Tryz.func154, Tryz.ntmps154
  go_wp2_with fail
  go_ret
  exact⟨ret_bool hb.out,rfl⟩
 ·have h1:decide (p.size<=s.size)=false:=decide_eq_false hs
  have hb:=Lib.hid (show false=b by
   subst h
   rcases hq:preB s p with _|_
   ·rfl
   ·have:=congrArg ByteArray.size ((preB_iff s p).1 hq)
    rw[ByteArray.size_extract] at this
    omega)
  clear h
  go_enter Tryz.func154, Tryz.ntmps154
  go_wp2_with fail
  go_ret
  exact⟨ret_bool hb.out,rfl⟩
theorem hp2 (s p:ByteArray) (w:World) {b:Bool} (h:preB s p=b):Calls Tryz.prog 123 #[.string s,.string p] w fun e w'=>e=.returned (.bool b)/\w=w':=by
 have mixed:Tryz.prog.follows .mixedOrders=true:=by kernel_rfl
 have H:=Lib.hid (fun w=>hp1 s p w h)
 clear h
 go_enter Tryz.func123, Tryz.ntmps123
 go_wp2_with fail
 refine(H.out _).mono ?_
 rintro e1 w1 ⟨rfl,rfl⟩
 go_wp2_with fail
 go_ret
 exact⟨rfl,rfl⟩
def hdrB (i g f:Nat):ByteArray:=frB 1 (hb i g f)
theorem hb_size (i g f:Nat) (h:1<=i/\i<=999999/\1<=g/\g<=999999/\1<=f/\f<=1000000000):(hb i g f).size<=27:=by
 have h3:=flat_len [i,g,f] (by intro x hx;simp at hx;omega)
 simp only[List.flatMap_cons,List.flatMap_nil,List.append_nil,List.length_cons,List.length_nil] at h3
 unfold hb
 show(List.toArray _).size<=27
 rw[List.size_toArray]
 omega
set_option maxHeartbeats 1600000 in
set_option maxRecDepth 100000 in
theorem begun_ok (s:ByteArray) (i g f:Nat) (w:World) (h:1<=i/\i<=999999/\1<=g/\g<=999999/\1<=f/\f<=1000000000) {b:Bool} (hp:preB s (hdrB i g f)=b) :
  Calls Tryz.prog 87 #[.string s,.agg #[.int .i64 (i:Int),.int .i64 (g:Int),.int .i64 (f:Int)]] w fun e w'=>e=.returned (.tuple #[.int .i64 (if b=true then((hdrB i g f).size:Int) else 0),.bool b])/\Below w.heap.size w w':=by
 have mixed:Tryz.prog.follows .mixedOrders=true:=by kernel_rfl
 have HH:=Lib.hid (hput_yes i g f (w.alloc (.cells #[.int .i64 (i:Int),.int .i64 (g:Int),.int .i64 (f:Int)] 33)) h)
 have HB:=Lib.hid (ext_alloc w (.cells #[.int .i64 (i:Int),.int .i64 (g:Int),.int .i64 (f:Int)] 33))
 have HP:=Lib.hid (fun w=>put_any 1 (hb i g f) w (by decide) (by have:=hb_size i g f h;omega))
 have hsz:=hb_size i g f h
 have HX:=Lib.hid (fun w=>hp2 s (hdrB i g f) w hp)
 have HE:=Lib.hid (show frB 1 (hb i g f)=hdrB i g f from rfl)
 rw[HE.out] at HP
 generalize hdrB i g f=D at *
 generalize hb i g f=E at *
 clear h hp
 rcases b with _|_
 all_goals
  go_enter Tryz.func87, Tryz.ntmps87
  go_wp2_with fail
  refine HH.out.mono ?_
  rintro e1 w1 ⟨rfl,hb1⟩
  have HB1:=Lib.hid (HB.out.trans (hb1.mono HB.out.size))
  clear hb1
  go_wp2_with fail
  refine(HP.out _).mono ?_
  rintro e2 w2 ⟨rfl,hb2⟩
  have HB2:=Lib.hid (HB1.out.trans (hb2.mono HB1.out.size))
  clear hb2
  go_wp2_with fail
  refine(HX.out _).mono ?_
  rintro e3 w3 ⟨rfl,rfl⟩
  go_wp2_with fail
  go_ret2
  exact⟨rfl,HB2.out⟩
set_option maxHeartbeats 1600000 in
set_option maxRecDepth 100000 in
theorem begun_no (s:ByteArray) (i g f:Int) (w:World) (h:okH i g f=false) :
  Calls Tryz.prog 87 #[.string s,.agg #[.int .i64 i,.int .i64 g,.int .i64 f]] w fun e w'=>e=.returned (.tuple #[.int .i64 0,.bool false])/\Below w.heap.size w w':=by
 have mixed:Tryz.prog.follows .mixedOrders=true:=by kernel_rfl
 have HH:=Lib.hid (hput_no i g f (w.alloc (.cells #[.int .i64 i,.int .i64 g,.int .i64 f] 33)) h)
 have HB:=Lib.hid (ext_alloc w (.cells #[.int .i64 i,.int .i64 g,.int .i64 f] 33))
 clear h
 go_enter Tryz.func87, Tryz.ntmps87
 go_wp2_with fail
 refine HH.out.mono ?_
 rintro e1 w1 ⟨rfl,hb1⟩
 have HB1:=Lib.hid (HB.out.trans (hb1.mono HB.out.size))
 clear hb1
 go_wp2_with fail
 go_ret2
 exact⟨rfl,HB1.out⟩
end Sn
end Go.Proofs.YtlnbjikooadmoaaGreat
namespace Go.Proofs.YtlnbjikooadmoaaGreat
namespace Dk
open Go.RowKit Hd Fm Sn
section
variable {w w':World} {S:Nat->Prop} {bd gN gS:Nat} {v:Value} {D:DS}
theorem rd_blk {g:Nat} {cs:Array Value} {t:TypeId} (h:Blk w g cs t):Rd w w.heap.size 1 (some ⟨g,0,none⟩) cs.size cs.toList :=
 ⟨by simp,fun _=>⟨_,rfl,h.lt,fun j u hu=>by
  rw[Addr.add_lit,Nat.zero_add]
  exact h.cell j (by simpa using hu)⟩⟩
structure Calm (D:DS):Prop where
 off:D.off=false
 armed:D.armed=0
theorem Calm.e (h:Calm D):opE D=0:=if_neg (by rw[h.armed];omega)
theorem Calm.s (h:Calm D) (b:Bool) (act:DS->DS):opS b act D=act (tick D):=if_neg (by rw[h.armed];omega)
theorem Calm.tick (h:Calm D):Calm (tick D):=⟨h.off,by show max (D.armed-1) 0=0;rw[h.armed];rfl⟩
theorem Calm.setF (h:Calm D) (b:Nat) (p:ByteArray×ByteArray):Calm (setF b p D):=⟨h.off,h.armed⟩
theorem Calm.chg (h:Calm D) (c:ByteArray×ByteArray×Option Nat):Calm (chgD c D):=⟨h.off,h.armed⟩
theorem Calm.up (h:Calm D):upE D=0:=by unfold upE;rw[h.off];rfl
set_option maxHeartbeats 1600000 in
theorem create1_go (h:DiskAt w S bd D) {bS:Nat} {i g f:Int} {s:ByteArray} (hb:Blk w bS (sgc bd i g f s) 77) (ho:D.off=false) (hs:Nm.check s.data.toList=0) (hl:lk s D.now=none) (hn:D.now.length<200) (hc:D.chg.length<=1000000) :
  Calls Tryz.prog 79 #[.pointer (some ⟨bS,0,none⟩)] w fun e w'=>e=.returned (.int .i64 (opE D))/\ ∃b S',D.fl b=none/\DiskAt w' S' bd (opS false (chgD (s,⟨#[]⟩,some b)) (setF b (⟨#[]⟩,⟨#[]⟩) D))/\Gr S w S' w':=by
 have HC:=Lib.hid (create_go h ho hs hl hn hc)
 have k0:=hb.cell 0 (v:=.pointer (some ⟨bd,0,none⟩)) rfl
 have k4:=hb.cell 4 (v:=.string s) rfl
 clear h hb ho hs hl hn hc
 go_enter Tryz.func79, Tryz.ntmps79
 go_wp2_with (go_at_call 63;refine HC.out.mono ?_;rintro e5 w5 ⟨rfl,b,S5,hf5,hD5,hG5⟩;have HD5:=Lib.hid (And.intro hf5 (And.intro hD5 hG5));clear hf5 hD5 hG5)
 go_ret
 exact⟨rfl,b,S5,HD5.out⟩
set_option maxHeartbeats 1600000 in
theorem create2_go (h:DiskAt w S bd D) {bS bB:Nat} {i g f:Int} {s body:ByteArray} (hS:Blk w bS (sgc bd i g f s) 77) (hB:Blk w bB #[.string body] 9) {b:Nat} {p:ByteArray×ByteArray} (ho:D.off=false) (hl:lk s D.now=some b) (hp:D.fl b=some p) (hb:body.size<=60000)
  (h1:p.2.size+(body.size+9)<=1000000) (h2:(body.size:Int)+9+(usedD D:Int)<=D.cap) :
  Calls Tryz.prog 80 #[.pointer (some ⟨bS,0,none⟩),.pointer (some ⟨bB,0,none⟩)] w fun e w'=>e=.returned (.int .i64 (opE D))/\ ∃S',DiskAt w' S' bd (opS false (setF b (p.1,p.2++frB 1 body)) D)/\Gr S w S' w':=by
 have HC:=Lib.hid (sput_go (k:=1) h (i:=i) (g:=g) (f:=f) ho hl hp (by decide) hb h1 h2)
 rw[show((1:UInt8).toNat:Int)=1 from rfl] at HC
 unfold sgc at *
 have k0:=hS.cell 0 (v:=.pointer (some ⟨bd,0,none⟩)) rfl
 have k1:=hS.cell 1 (v:=.int .i64 i) rfl
 have k2:=hS.cell 2 (v:=.int .i64 g) rfl
 have k3:=hS.cell 3 (v:=.int .i64 f) rfl
 have k4:=hS.cell 4 (v:=.string s) rfl
 have b0:=hB.cell 0 (v:=.string body) rfl
 clear h hS hB ho hl hp hb h1 h2
 go_enter Tryz.func80, Tryz.ntmps80
 go_wp2_with (go_at_call 37;refine HC.out.mono ?_;rintro e5 w5 ⟨rfl,S5,hD5,hG5⟩;have HD5:=Lib.hid hD5;have HG5:=Lib.hid hG5;clear hD5 hG5)
 go_ret
 exact⟨rfl,S5,HD5.out,HG5.out⟩
end
end Dk
end Go.Proofs.YtlnbjikooadmoaaGreat
namespace Go.Proofs.YtlnbjikooadmoaaGreat
namespace Dk
open Go.RowKit Hd Fm Sn
theorem lk_pt (s:ByteArray) (b:Nat):∀l,lk s (pt s b l)=some b
 | []=>by rw[pt,lk_cons,if_pos rfl]
 |x::l=>by
  unfold pt
  split
  ·rw[lk_cons,if_pos rfl]
  ·rename_i h
   rw[lk_cons,if_neg h,lk_pt s b l]
theorem pt_new (s:ByteArray) (b:Nat):∀l,lk s l=none->pt s b l=l++[(s,b)]
 | [],_=>rfl
 |x::l,h=>by
  rw[lk_cons] at h
  split at h
  ·cases h
  ·rename_i hx
   rw[pt,if_neg hx,pt_new s b l h];rfl
theorem szs_other {fl:Nat->Option (ByteArray×ByteArray)} {b:Nat} (p:ByteArray×ByteArray):∀l:List (ByteArray×Nat),(∀x∈l,x.2≠b)->szs (fun k=>if k=b then some p else fl k) l=szs fl l
 | [],_=>rfl
 |x::l,h=>by
  rw[szs,szs,if_neg (h x (List.mem_cons_self ..)),szs_other p l fun y hy=>h y (List.mem_cons_of_mem _ hy)]
def d1 (s:ByteArray) (b:Nat) (D:DS):DS:=chgD (s,⟨#[]⟩,some b) (tick (setF b (⟨#[]⟩,⟨#[]⟩) D))
def d2 (s:ByteArray) (T:ByteArray) (b:Nat) (D:DS):DS:=setF b (⟨#[]⟩,⟨#[]⟩++T) (tick (d1 s b D))
def d3 (s:ByteArray) (T:ByteArray) (b:Nat) (D:DS):DS:=setF b (⟨#[]⟩++T,⟨#[]⟩++T) (tick (d2 s T b D))
theorem d1_now {s:ByteArray} {b:Nat} {D:DS} (hl:lk s D.now=none):(d1 s b D).now=D.now++[(s,b)]:=by
 show app (s,⟨#[]⟩,some b) D.now=_
 unfold app
 dsimp only
 rw[if_pos rfl,pt_new s b _ hl]
theorem d1_used {s:ByteArray} {b:Nat} {D:DS} (hl:lk s D.now=none) (hf:Fit D) (hb:D.fl b=none):usedD (d1 s b D)=usedD D:=by
 unfold usedD
 rw[d1_now hl,szs_append]
 have e:(d1 s b D).fl=fun k=>if k=b then some (⟨#[]⟩,⟨#[]⟩) else D.fl k:=rfl
 rw[e,szs_other _ _ fun x hx h=>hf.wfN x hx (by rw[h];exact hb)]
 rw[szs,szs,if_pos rfl];rfl
theorem opS_calm {D:DS} (h:Calm D) (b:Bool) (act:DS->DS):opS b act D=act (tick D):=h.s b act
section
variable {w w':World} {S:Nat->Prop} {bd gN gS:Nat} {v:Value} {D:DS}
theorem DiskAt.fit (h:DiskAt w S bd D):Fit D:=by
 obtain⟨gN,gS,v,h⟩:=h
 exact h.fit
set_option maxHeartbeats 1600000 in
theorem create_all (h:DiskAt w S bd D) (hc:Calm D) {bS bB gF:Nat} {i g f:Int} {s body:ByteArray} (hS:Blk w bS (sgc bd i g f s) 77) (hB:Blk w bB #[.string body] 9)
  (hF:Blk w gF #[.func (.func 79) #[] #[.pointer (some ⟨bS,0,none⟩)],.func (.func 80) #[] #[.pointer (some ⟨bS,0,none⟩),.pointer (some ⟨bB,0,none⟩)],.func (.func 53) #[.agg (sgc bd i g f s)] #[]] 57)
  (nS: ¬ S bS) (nB: ¬ S bB) (nF: ¬ S gF) (hs:Nm.check s.data.toList=0) (hl:lk s D.now=none) (hn:D.now.length<200) (hch:D.chg.length<=1000000) (hb:body.size<=60000) (h2:(body.size:Int)+9+(usedD D:Int)<=D.cap) :
  Calls Tryz.prog 47 #[.slice (some ⟨gF,0,none⟩) 3 3] w fun e w'=>e=.returned (.int .i64 0)/\ ∃b S',D.fl b=none/\DiskAt w' S' bd (d3 s (frB 1 body) b D)/\Gr S w S' w':=by
 have hfit:=h.fit
 let R:Nat->DS->Prop:=fun k D'=>match k with
  |0=>D'=D
  |1=>∃b,D.fl b=none/\D'=d1 s b D
  |2=>∃b,D.fl b=none/\D'=d2 s (frB 1 body) b D
  |_=>∃b,D.fl b=none/\D'=d3 s (frB 1 body) b D
 refine(all_any [(79,#[],#[.pointer (some ⟨bS,0,none⟩)]),(80,#[],#[.pointer (some ⟨bS,0,none⟩),.pointer (some ⟨bB,0,none⟩)]),(53,#[.agg (sgc bd i g f s)],#[])]
  (some ⟨gF,0,none⟩) 3 3 w (fun k wx=>∃S' D',Gr S w S' wx/\DiskAt wx S' bd D'/\R k D') (fun _ _=>False) (by omega) ?_ ⟨S,D,Gr.refl _ _,h,rfl⟩ ?_ ?_).mono ?_
 ·rintro k wx ⟨S',D',g1,-⟩
  exact rd_blk (g1.blk hF nF)
 ·intro f' hf'
  simp only[List.mem_cons,List.not_mem_nil,or_false] at hf'
  rcases hf' with rfl|rfl|rfl
  ·exact enters_of Tryz.func79 (by kernel_rfl) rfl
  ·exact enters_of Tryz.func80 (by kernel_rfl) rfl
  ·exact enters_of Tryz.func53 (by kernel_rfl) rfl
 ·intro k f' hf' wx hJ
  obtain⟨S',D',g1,hD,hR⟩:=hJ
  rcases k with _|_|_|k
  ·simp only[List.getElem?_cons_zero,Option.some.injEq] at hf'
   subst hf'
   obtain rfl:D'=D:=hR
   refine(create1_go hD (g1.blk hS nS) hc.off hs hl hn hch).mono ?_
   rintro e w2 ⟨rfl,b,S2,hbn,hD2,g2⟩
   refine⟨0,by rw[hc.e],.inl ⟨rfl,S2,_,g1.trans g2,hD2,b,hbn,?_⟩⟩
   rw[opS_calm (hc.setF b _)];rfl
  ·simp only[List.getElem?_cons_succ,List.getElem?_cons_zero,Option.some.injEq] at hf'
   subst hf'
   obtain⟨b,hbn,rfl⟩:∃b,D.fl b=none/\D'=d1 s b D:=hR
   have c1:Calm (d1 s b D):=((hc.setF b _).tick).chg _
   refine(create2_go hD (g1.blk hS nS) (g1.blk hB nB) (b:=b) (p:=(⟨#[]⟩,⟨#[]⟩)) c1.off (by rw[d1_now hl,<-pt_new s b _ hl];exact lk_pt s b _) (by show(if b=b then _ else _)=_;rw[if_pos rfl]) hb (by show 0+_<=_;omega) (by rw[d1_used hl hfit hbn];exact h2)).mono ?_
   rintro e w2 ⟨rfl,S2,hD2,g2⟩
   refine⟨0,by rw[c1.e],.inl ⟨rfl,S2,_,g1.trans g2,hD2,b,hbn,?_⟩⟩
   rw[opS_calm c1];rfl
  ·simp only[List.getElem?_cons_succ,List.getElem?_cons_zero,Option.some.injEq] at hf'
   subst hf'
   obtain⟨b,hbn,rfl⟩:∃b,D.fl b=none/\D'=d2 s (frB 1 body) b D:=hR
   have c1:Calm (d2 s (frB 1 body) b D):=(((hc.setF b _).tick).chg _).tick.setF b _
   refine(ssync_go hD (b:=b) (p:=(⟨#[]⟩,⟨#[]⟩++frB 1 body)) c1.off (by show lk s (d1 s b D).now=_;rw[d1_now hl,<-pt_new s b _ hl];exact lk_pt s b _) (by show(if b=b then _ else _)=_;rw[if_pos rfl])).mono ?_
   rintro e w2 ⟨rfl,S2,hD2,g2⟩
   refine⟨0,by rw[c1.e],.inl ⟨rfl,S2,_,g1.trans g2,hD2,b,hbn,?_⟩⟩
   rw[opS_calm c1];rfl
  ·simp at hf'
 ·rintro e w' ⟨x,rfl,⟨rfl,S',D',g1,hD,b,hbn,rfl⟩|⟨-,hF⟩⟩
  ·exact⟨rfl,b,S',hbn,hD,g1⟩
  ·exact hF.elim
end
end Dk
end Go.Proofs.YtlnbjikooadmoaaGreat
namespace Go.Proofs.YtlnbjikooadmoaaGreat
namespace Dk
open Go.RowKit Hd Fm Sn
section
variable {w w':World} {S:Nat->Prop} {bd gN gS:Nat} {v:Value} {D:DS}
set_option maxHeartbeats 3200000 in
set_option maxRecDepth 100000 in
theorem screate_go (h:DiskAt w S bd D) (hc:Calm D) {i g f:Nat} {s:ByteArray} (hh:1<=i/\i<=999999/\1<=g/\g<=999999/\1<=f/\f<=1000000000) (hs:Nm.check s.data.toList=0) (hl:lk s D.now=none) (hn:D.now.length<200) (hch:D.chg.length<=1000000) (h2:(36:Int)+(usedD D:Int)<=D.cap) :
  Calls Tryz.prog 31 #[.agg (sgc bd i g f s)] w fun e w'=>e=.returned (.int .i64 0)/\ ∃b S',D.fl b=none/\DiskAt w' S' bd (d3 s (hdrB i g f) b D)/\Gr S w S' w':=by
 have hbs:=hb_size i g f hh
 have HP:=Lib.hid (fun w=>hput_yes i g f w hh)
 have nlt:∀k,w.heap.size<=k-> ¬ S k:=by
  obtain⟨gN,gS,v,h⟩:=h
  exact fun k hk=>h.gt hk
 have HA:=Lib.hid (show ∀w1 w3,Below w.heap.size w w1->Blk w1 w.heap.size (sgc bd i g f s) 77 ->
   w3=(w1.alloc (.cells #[.string (hb i g f)] 9)).alloc (.cells #[.func (.func 79) #[] #[.pointer (some ⟨w.heap.size,0,none⟩)],.func (.func 80) #[] #[.pointer (some ⟨w.heap.size,0,none⟩),.pointer (some ⟨w1.heap.size,0,none⟩)],.func (.func 53) #[.agg (sgc bd i g f s)] #[]] 57) ->
   Calls Tryz.prog 47 #[.slice (some ⟨w1.heap.size+1,0,none⟩) 3 3] w3 fun e w'=>e=.returned (.int .i64 0)/\ ∃b S',D.fl b=none/\DiskAt w' S' bd (d3 s (hdrB i g f) b D)/\Gr S w S' w' from by
  rintro w1 w3 hb1 hS rfl
  have e2:=ext_second w1 (.cells #[.string (hb i g f)] 9) (.cells #[.func (.func 79) #[] #[.pointer (some ⟨w.heap.size,0,none⟩)],.func (.func 80) #[] #[.pointer (some ⟨w.heap.size,0,none⟩),.pointer (some ⟨w1.heap.size,0,none⟩)],.func (.func 53) #[.agg (sgc bd i g f s)] #[]] 57)
  have e3:=hb1.trans (e2.mono hb1.size)
  refine(create_all (h.ext e3) hc (hS.ext e2) ((Blk.new w1 _ _).alloc _) (blk_second w1 _ _ _) (nlt _ (Nat.le_refl _)) (nlt _ hb1.size) (nlt _ (Nat.le_succ_of_le hb1.size)) hs hl hn hch (by omega) (by omega)).mono ?_
  rintro e w' ⟨rfl,b,S',q1,q2,q3⟩
  exact⟨rfl,b,S',q1,q2,(Gr.of_below e3).trans q3⟩)
 clear h hc hh hs hl hn hch h2 hbs nlt
 unfold sgc at *
 have B0:=Blk.new w #[.pointer (some ⟨bd,0,none⟩),.int .i64 i,.int .i64 g,.int .i64 f,.string s] 77
 have B2:=ext_alloc w (.cells #[.pointer (some ⟨bd,0,none⟩),.int .i64 i,.int .i64 g,.int .i64 f,.string s] 77)
 generalize hb i g f=H at *
 go_enter Tryz.func31, Tryz.ntmps31
 go_wp2_with (first
  |(go_at_call 32;refine(HP.out _).mono ?_;rintro e1 w1 ⟨rfl,hb1⟩;have HB1:=Lib.hid (B0.ext hb1);have HW1:=Lib.hid (B2.trans (hb1.mono B2.size));clear hb1 B0 B2;have k0:=HB1.out.cell 0 (v:=.pointer (some ⟨bd,0,none⟩)) rfl;have k1:=HB1.out.cell 1 (v:=.int .i64 i) rfl;have k2:=HB1.out.cell 2 (v:=.int .i64 g) rfl;have k3:=HB1.out.cell 3 (v:=.int .i64 f) rfl;have k4:=HB1.out.cell 4 (v:=.string s) rfl;have l0:=HB1.out.lt)
  |(go_at_call 47;refine(HA.out _ _ HW1.out HB1.out rfl).mono ?_;rintro e5 w5 ⟨rfl,b,S5,hf5,hD5,hG5⟩;have HD5:=Lib.hid (And.intro hf5 (And.intro hD5 hG5));clear hf5 hD5 hG5))
 go_ret
 exact⟨rfl,b,S5,HD5.out⟩
set_option maxHeartbeats 3200000 in
set_option maxRecDepth 100000 in
theorem Create_go (h:DiskAt w S bd D) (hc:Calm D) {i g f:Nat} (hh:1<=i/\i<=999999/\1<=g/\g<=999999/\1<=f/\f<=1000000000) (hl:lk (segN i g) D.now=none) (hn:D.now.length<200) (hch:D.chg.length<=1000000) (h2:(36:Int)+(usedD D:Int)<=D.cap) :
  Calls Tryz.prog 8 #[.pointer (some ⟨bd,0,none⟩),.agg #[.int .i64 (i:Int),.int .i64 (g:Int),.int .i64 (f:Int)]] w fun e w'=>e=.returned (.int .i64 0)/\ ∃b S',D.fl b=none/\DiskAt w' S' bd (d3 (segN i g) (hdrB i g f) b D)/\Gr S w S' w':=by
 have hs:Nm.check (segN i g).data.toList=0:=Nm.check_seg i g
 have HO:=Lib.hid (fun w=>of_ok (bd:=bd) (i:Int) (g:Int) (f:Int) w (by simp only[okH,decide_eq_true_eq];omega))
 have HC:=Lib.hid (fun(wx:World) (hx:Below w.heap.size w wx)=>screate_go (h.ext hx) hc hh hs hl hn hch h2)
 clear h hc hh hs hl hn hch h2
 unfold sgc at *
 generalize segN i g=s at *
 have B2:=ext_alloc w (.cells #[.int .i64 (i:Int),.int .i64 (g:Int),.int .i64 (f:Int)] 33)
 go_enter Tryz.func8, Tryz.ntmps8
 go_wp2_with (first
  |(go_at_call 30;refine(HO.out _).mono ?_;rintro e1 w1 ⟨rfl,hb1⟩;have HW1:=Lib.hid (B2.trans (hb1.mono B2.size));clear hb1 B2;have HW2:=Lib.hid (HW1.out.trans ((ext_alloc w1 (.cells #[.pointer (some ⟨bd,0,none⟩),.int .i64 i,.int .i64 g,.int .i64 f,.string s] 77)).mono HW1.out.size)))
  |(go_at_call 31;refine(HC.out _ HW2.out).mono ?_;rintro e5 w5 ⟨rfl,b,S5,hf5,hD5,hG5⟩;have HD5:=Lib.hid (And.intro hf5 (And.intro hD5 hG5));clear hf5 hD5 hG5))
 go_ret
 exact⟨rfl,b,S5,HD5.out.1,HD5.out.2.1,(Gr.of_below HW2.out).trans HD5.out.2.2⟩
end
end Dk
end Go.Proofs.YtlnbjikooadmoaaGreat
namespace Go.Proofs.YtlnbjikooadmoaaGreat
namespace Tk
open Go.RowKit
open Bt (Frm)
set_option maxHeartbeats 6400000 in
set_option maxRecDepth 100000 in
theorem caughtB_ok (w:World) (caps:Array Value) (G:World->Prop) (hG:∀w',G w'->Var w' w.heap.size 27 (.int .i64 0)/\Var w' (w.heap.size+1) 3 (.int .i64 0))
  (hf:Calls Tryz.prog 115 caps (wC w) fun e w'=>e=.returned (.tuple #[])/\G w') :
  Calls Tryz.prog 118 #[.func (.func 115) #[] caps] w fun e w'=>e=.returned (.tuple #[.int .i64 0,.int .i64 0])/\ ∃w2,G w2/\Keep w2 w' [w.heap.size,w.heap.size+1]:=by
 have mixed:Tryz.prog.follows .mixedOrders=true:=by kernel_rfl
 have hmf:∀(fn:Fn) (first cap:Array Value) (w:World),(Instr.makeFunc fn first cap).run Tryz.prog w=.ok (.func fn first cap) w:=fun _ _ _ _=>rfl
 have HF:=Lib.hid hf
 have HG:=Lib.hid hG
 clear hf hG
 go_enter_defers Tryz.func118,Tryz.ntmps118
 go_wp2_with fail
 refine HF.out.mono ?_
 rintro e1 w1 ⟨rfl,h1⟩
 obtain⟨v1,v2⟩:=HG.out w1 h1
 have c1:=v1.cell
 have f1:=v1.frozen
 have c2:=v2.cell
 have f2:=v2.frozen
 have HX:=Lib.hid (And.intro h1 (And.intro v1 v2))
 clear h1 v1 v2 HF HG
 go_wp2_with fail
 refine leaves_cons (f:=151) (args:=#[.pointer (some ⟨w.heap.size,0,none⟩),.pointer (some ⟨w.heap.size+1,0,none⟩)]) (by simp) (by simp[go_sem]) ?_
 refine(catch_idle ⟨w.heap.size,0,none⟩ ⟨w.heap.size+1,0,none⟩ _).mono ?_
 rintro e u' w'' ⟨rfl,rfl,rfl⟩
 have n1:w.heap.size≠w.heap.size+1:=by omega
 have u1:=(HX.out.2.1.set_ (.int .i64 0)).far (p:=⟨w.heap.size+1,0,none⟩) n1 (.int .i64 0)
 have u2:=(HX.out.2.2.far (p:=⟨w.heap.size,0,none⟩) (Ne.symm n1) (.int .i64 0)).set_ (.int .i64 0)
 have hk:Keep w1 ((w1.setCell ⟨w.heap.size,0,none⟩ (.int .i64 0)).setCell ⟨w.heap.size+1,0,none⟩ (.int .i64 0)) [w.heap.size,w.heap.size+1] :=
  ((Keep.refl w1 _).set ⟨w.heap.size,0,none⟩ (.inl (by simp)) _).set ⟨w.heap.size+1,0,none⟩ (.inl (by simp)) _
 have d1:=u1.cell
 have d2:=u2.cell
 simp[Leaves,settle,results,Tryz.results118,go_sem,d1,d2]
 exact⟨w1,HX.out.1,hk⟩
set_option maxHeartbeats 6400000 in
set_option maxRecDepth 100000 in
theorem caughtB_no (w:World) (caps:Array Value) (x:Int) (G:World->Prop) (hG:∀w',G w'->Var w' w.heap.size 27 (.int .i64 0)/\Var w' (w.heap.size+1) 3 (.int .i64 0))
  (hf:Calls Tryz.prog 115 caps (wC w) fun e w'=>(∃p,e=.panicked [fault x p])/\G w') :
  Calls Tryz.prog 118 #[.func (.func 115) #[] caps] w fun e w'=>(∃p:Int,e=.returned (.tuple #[.int .i64 x,.int .i64 p]))/\ ∃w2,G w2/\Keep w2 w' [w.heap.size,w.heap.size+1]:=by
 have mixed:Tryz.prog.follows .mixedOrders=true:=by kernel_rfl
 have hmf:∀(fn:Fn) (first cap:Array Value) (w:World),(Instr.makeFunc fn first cap).run Tryz.prog w=.ok (.func fn first cap) w:=fun _ _ _ _=>rfl
 have HF:=Lib.hid hf
 have HG:=Lib.hid hG
 clear hf hG
 go_enter_defers Tryz.func118,Tryz.ntmps118
 go_wp2_with fail
 refine HF.out.mono ?_
 rintro e1 w1 ⟨⟨p,rfl⟩,h1⟩
 obtain⟨v1,v2⟩:=HG.out w1 h1
 have n1:w.heap.size≠w.heap.size+1:=by omega
 refine leaves_cons (f:=151) (args:=#[.pointer (some ⟨w.heap.size,0,none⟩),.pointer (some ⟨w.heap.size+1,0,none⟩)]) (by simp) (by simp[go_sem]) ?_
 refine(catch_fault w.heap.size (w.heap.size+1) x p w1 _ _ v1 v2 n1).mono ?_
 rintro e u' w'' ⟨rfl,rfl,u1,u2,hk⟩
 have d1:=u1.cell
 have d2:=u2.cell
 simp[Leaves,settle,results,Tryz.results118,go_sem,d1,d2]
 exact⟨w1,h1,hk⟩
end Tk
end Go.Proofs.YtlnbjikooadmoaaGreat
namespace Go.Proofs.YtlnbjikooadmoaaGreat
namespace Tk
open Go.RowKit
open Bt (Frm)
set_option maxHeartbeats 3200000 in
theorem ttext1_ok (w:World) (b:Nat) (s:ByteArray) (h:Ta w b s 0) (hs:s.size<=1000000) (hd:1<=s.size) :
  Calls Tryz.prog 149 #[.pointer (some ⟨b,0,none⟩),.int .i64 1] w fun e w'=>e=.returned (.string (s.extract 0 1))/\Ta w' b s 1/\Keep w w' [b]:=by
 have mixed:Tryz.prog.follows .mixedOrders=true:=by kernel_rfl
 have hL:=left_any w b 0 s h hs (by omega)
 rw[Nat.sub_zero] at hL
 have HL:=Lib.hid hL
 have H:Aside (Ta w b s 0):=h
 have hdp: ¬ (s.size:Int)<1:=by omega
 have hlp:0<s.size:=hd
 clear hL h
 go_enter Tryz.func149, Tryz.ntmps149
 go_wp2_with fail
 refine HL.out.mono ?_
 rintro e1 w1 ⟨rfl,m,rfl⟩
 have hta:Ta (w.drewN m) b s 0:=H.out
 have hc1:=hta.c1
 have hf1:=hta.fz 1
 have hta2:Ta ((w.drewN m).setCell ⟨b,1,none⟩ (.int .i64 1)) b s 1:=hta.set1 1
 have hkp:Keep w ((w.drewN m).setCell ⟨b,1,none⟩ (.int .i64 1)) [b]:=((Keep.refl w _).drewN m).set ⟨b,1,none⟩ (.inl (by simp)) _
 have HF:=Lib.hid (And.intro hta2 hkp)
 have d0:=hta2.c0
 have d1:((w.drewN m).setCell ⟨b,1,none⟩ (.int .i64 1)).cell? ⟨b,1,none⟩=some (.int .i64 1):=hta2.c1
 clear hta hkp hta2
 have hc1':(w.drewN m).cell? ⟨b,1,none⟩=some (.int .i64 0):=hc1
 clear hc1
 go_wp2_with fail
 generalize (w.drewN m).setCell ⟨b,1,none⟩ (.int .i64 1)=w2 at *
 have i1:(1:Int)<=(s.size:Int):=by omega
 clear hc1' hf1
 go_quiet (fail)
 go_wp2_with fail
 go_ret
 exact⟨rfl,HF.out.1,HF.out.2.drewN _⟩
set_option maxHeartbeats 3200000 in
theorem ttext1_no (w:World) (b:Nat) (s:ByteArray) (h:Ta w b s 0) (hs:s.size<=1000000) (hd:s.size=0) :
  Calls Tryz.prog 149 #[.pointer (some ⟨b,0,none⟩),.int .i64 1] w fun e w'=>e=.panicked [fault 4 0]/\Keep w w' [b]:=by
 have mixed:Tryz.prog.follows .mixedOrders=true:=by kernel_rfl
 have hL:=left_any w b 0 s h hs (by omega)
 rw[hd] at hL
 have HL:=Lib.hid hL
 have HC:=Lib.hid (fun m=>check_no (w.drewN m) b 0 s 4 h (by decide))
 clear hL h hd
 go_enter Tryz.func149, Tryz.ntmps149
 go_wp2_with fail
 refine HL.out.mono ?_
 rintro e1 w1 ⟨rfl,m,rfl⟩
 go_wp2_with fail
 refine(HC.out m).mono ?_
 rintro e1 w1 ⟨rfl,rfl⟩
 exact⟨rfl,rfl,(Keep.refl w _).drewN m⟩
set_option maxHeartbeats 3200000 in
theorem byte_ok (w:World) (b:Nat) (s:ByteArray) (h:Ta w b s 0) (hs:s.size<=1000000) (c:UInt8) (r:List UInt8) (hc:s.data.toList=c::r) :
  Calls Tryz.prog 116 #[.pointer (some ⟨b,0,none⟩)] w fun e w'=>e=.returned (.int .i64 (c.toNat:Int))/\Ta w' b s 1/\Keep w w' [b]:=by
 have mixed:Tryz.prog.follows .mixedOrders=true:=by kernel_rfl
 have hd:1<=s.size:=by
  have:s.data.toList.length=s.size:=rfl
  rw[hc,List.length_cons] at this;omega
 have HT:=Lib.hid (ttext1_ok w b s h hs hd)
 have hx:s.extract 0 1=⟨#[c]⟩:=by
  apply ByteArray.ext
  apply Array.ext'
  rw[ByteArray.data_extract,Array.toList_extract,hc]
  simp[List.extract_eq_take_drop]
 rw[hx] at HT
 have hcb:=c.toNat_lt
 clear hx h hc hd
 go_enter Tryz.func116, Tryz.ntmps116
 go_wp2_with fail
 refine HT.out.mono ?_
 rintro e1 w1 ⟨rfl,hta,hk⟩
 have HX:=Lib.hid (And.intro hta hk)
 clear hta hk
 go_wp2_with fail
 go_ret
 refine⟨ret_int (k:=.i64) ?_,HX.out⟩
 exact Vi.wrap64_nat c.toNat (by omega)
set_option maxHeartbeats 3200000 in
theorem byte_no (w:World) (b:Nat) (s:ByteArray) (h:Ta w b s 0) (hs:s.size<=1000000) (hd:s.size=0) :
  Calls Tryz.prog 116 #[.pointer (some ⟨b,0,none⟩)] w fun e w'=>e=.panicked [fault 4 0]/\Keep w w' [b]:=by
 have mixed:Tryz.prog.follows .mixedOrders=true:=by kernel_rfl
 have HT:=Lib.hid (ttext1_no w b s h hs hd)
 clear h hd
 go_enter Tryz.func116, Tryz.ntmps116
 go_wp2_with fail
 refine HT.out.mono ?_
 rintro e1 w1 ⟨rfl,hk⟩
 exact⟨rfl,rfl,hk⟩
end Tk
end Go.Proofs.YtlnbjikooadmoaaGreat
namespace Go.Proofs.YtlnbjikooadmoaaGreat
namespace Rd
open Go.RowKit Vi Bd
def jS (l:List (Int×Int×ByteArray)):ByteArray:=if jE l=0 then⟨(joinB l).toArray⟩ else⟨#[]⟩
theorem jS_ok {l:List (Int×Int×ByteArray)} (h:jE l=0):jS l=⟨(joinB l).toArray⟩:=if_pos h
theorem jS_no {l:List (Int×Int×ByteArray)} (h:jE l≠0):jS l=⟨#[]⟩:=if_neg h
theorem recB_le (r:Int×Int×ByteArray) (h:ok1 r=true):(recB r).length<=2027:=by
 rw[ok1_iff] at h
 have l1:=length_putV_le r.1.toNat 8 (by omega)
 have l2:=length_putV_le r.2.1.toNat 8 (by omega)
 have l3:=length_putV_le r.2.2.size 8 (by omega)
 have:r.2.2.data.toList.length=r.2.2.size:=rfl
 unfold recB;simp only[List.length_append];omega
theorem joinB_append (a b:List (Int×Int×ByteArray)):joinB (a++b)=joinB a++joinB b:=List.flatMap_append ..
theorem joinB_take {l:List (Int×Int×ByteArray)} {k:Nat} {r:Int×Int×ByteArray} (h:l[k]? =some r):joinB (l.take (k+1))=joinB (l.take k)++recB r:=by
 have e:l.take (k+1)=l.take k++[r]:=by rw[List.take_add_one,h];rfl
 rw[e,joinB_append];simp[joinB]
theorem joinB_le (l:List (Int×Int×ByteArray)) (k:Nat):(joinB (l.take k)).length<=(joinB l).length:=by
 conv=>rhs;rw[<-List.take_append_drop k l,joinB_append,List.length_append]
 omega
set_option maxHeartbeats 6400000 in
set_option maxRecDepth 100000 in
theorem join_any (A:Option Addr) (n c:Nat) (l:List (Int×Int×ByteArray)) (w:World) (hrd:Rd w w.heap.size 3 A n (fl3 l)) (hn:n<=1000000) :
  Calls Tryz.prog 27 #[.slice A n c] w fun e w'=>e=.returned (.tuple #[.string (jS l),.int .i64 (jE l)])/\Below w.heap.size w w':=by
 have mixed:Tryz.prog.follows .mixedOrders=true:=by kernel_rfl
 have hln:=rd3_len hrd
 have HR:=Lib.hid hrd
 have HW:=Lib.hid (row_any A n c l w hrd (by omega))
 clear hrd
 by_cases hr:rowE none l=0
 ·have hok:=rowE_ok l none hr
  have HOK:=Lib.hid hok
  have hje:20000<(joinB l).length->jE l=3:=fun h=>by unfold jE;rw[if_neg (by simp[hr]),if_pos h]
  have hje2: ¬ 20000<(joinB l).length->jE l=0:=fun h=>by unfold jE;rw[if_neg (by simp[hr]),if_neg h]
  have HJ:=Lib.hid (And.intro hje hje2)
  rw[hr] at HW
  have P:=Lib.hid (fun q t d w h=>rput_any q t d w h)
  clear hok hje hje2 hr
  go_enter Tryz.func27, Tryz.ntmps27
  go_wp2_with fail
  refine HW.out.mono ?_
  rintro e1 w1 ⟨rfl,hb1⟩
  have HB:=Lib.hid (show Below w.heap.size w (w1.alloc (.cells #[.pointer none,.slice none 0 0] 120)) from hb1.alloc hb1.size _)
  have HBB:=Lib.hid (bb_new w1)
  have hlt:=hb1.size
  clear HW hb1
  go_wp2_with fail
  generalize hB:w1.heap.size=B at *
  have hB2:B<=(w1.alloc (.cells #[.pointer none,.slice none 0 0] 120)).heap.size:=by simp;omega
  clear hB
  generalize w1.alloc (.cells #[.pointer none,.slice none 0 0] 120)=w4 at *
  go_loopw [17] (fun v wr=>∃k:Nat,v=.int .i64 k/\k<=n/\Hid (Bb wr B B (joinB (l.take k))/\Below B w4 wr/\B<=wr.heap.size/\(joinB (l.take k)).length<=20000)) (fun v _=>n-(intOf v).toNat)
  case atStart=>exact⟨0,by go_num,by omega,HBB.out,Below.refl _ _,hB2,by simp[joinB]⟩
  case round =>
   obtain⟨k,rfl,hk,HX⟩:=hrel
   by_cases hkn:k<n
   ·have hbw:=HB.out.trans (HX.out.2.1.mono hlt)
    obtain⟨ad,q,t,d,rfl,hbk,hx,hc0,hc1,hc2⟩:=rec3 (HR.out.below hbw) hkn
    have ho:ok1 (q,t,d)=true:=HOK.out _ (List.mem_of_getElem? hx)
    have hoo:=ho
    rw[ok1_iff] at hoo
    obtain⟨q,rfl⟩:=Int.eq_ofNat_of_zero_le (show 0<=q by have:=hoo.1;simp only at this;omega)
    obtain⟨t,rfl⟩:=Int.eq_ofNat_of_zero_le (show 0<=t by have:=hoo.2.2.1;simp only at this;omega)
    clear hoo hbw
    have hle:=recB_le _ ho
    have HT:=Lib.hid (joinB_take hx)
    have hlen:=HX.out.2.2.2
    have HL:=Lib.hid (joinB_le l (k+1))
    go_wp2_with fail
    refine(P.out q t d _ ho).mono ?_
    rintro e2 w2 ⟨rfl,hb2⟩
    obtain⟨sb,hsb⟩:∃sb:ByteArray,sb=⟨(recB ((q:Int),(t:Int),d)).toArray⟩:=⟨_,rfl⟩
    have hs1:sb.size=(recB ((q:Int),(t:Int),d)).length:=by rw[hsb];simp[ByteArray.size]
    have hs2:sb.data.toList=recB ((q:Int),(t:Int),d):=by rw[hsb]
    have hT2:=congrArg List.length HT.out
    rw[List.length_append] at hT2
    rw[<-hsb]
    have HBB2:=Lib.hid (Bb_below (HX.out.1.keep (w':=wr.alloc (.cells #[.int .i64 (q:Int),.int .i64 (t:Int),.string d] 31)) (by simp) fun k _ hk=>Below.heap_alloc wr _ k hk) hb2)
    have HB2:=Lib.hid (ext_trans (ext_alloc wr _) hb2)
    have hLen:=Lib.hid (len_any B B _ w2 HBB2.out)
    have HB3:=Lib.hid (HX.out.2.1.trans (HB2.out.mono HX.out.2.2.1))
    have hB3:B<=w2.heap.size:=by have:=HB2.out.size;have:=HX.out.2.2.1;omega
    have HBW:=Lib.hid (HB.out.trans (HB3.out.mono hlt))
    have HS:=Lib.hid hs2
    generalize hjl:(joinB (l.take k)).length=jl at *
    have hjl2:jl<=20000:=HX.out.2.2.2
    have HJL:=Lib.hid hjl
    have hbd:sb.size<=2027:=by omega
    have HT2:=Lib.hid hT2
    have HS1:=Lib.hid hs1
    clear hsb hs1 hs2 hT2 hb2 hle hjl P HOK ho HX hc0 hc1 hc2
    go_wp2_with fail
    by_cases hbig:20000<jl+sb.size
    ·have hj3:jE l=3:=HJ.out.1 (by have:=HL.out;have:=HT2.out;have:=HS1.out;omega)
     have hcmp:(20000:Int)-(jl:Int)<(sb.size:Int):=by omega
     go_wp2_with fail
     refine hLen.out.mono ?_
     rintro e3 w3 ⟨rfl,rfl⟩
     go_wp2_with fail
     go_ret2
     rw[jS_no (by rw[hj3];decide),hj3]
     exact⟨rfl,HBW.out⟩
    ·have hcmp: ¬ (20000:Int)-(jl:Int)<(sb.size:Int):=by omega
     have HWr:=Lib.hid (write_any B B (joinB (l.take k)) sb w2 HBB2.out (by have:=HJL.out;omega) hB3)
     go_wp2_with fail
     refine hLen.out.mono ?_
     rintro e3 w3 ⟨rfl,rfl⟩
     go_wp2_with fail
     refine HWr.out.mono ?_
     rintro e4 w5 ⟨rfl,hbb5,hb5⟩
     rw[HS.out,<-HT.out] at hbb5
     have HX5:=Lib.hid (show Bb w5 B B (joinB (l.take (k+1)))/\Below B w4 w5/\B<=w5.heap.size/\(joinB (l.take (k+1))).length<=20000 from
      ⟨hbb5,HB3.out.trans hb5,by have:=hb5.size;omega,by have:=HT2.out;have:=HS1.out;omega⟩)
     clear hbb5 hb5 HWr HBB2 HB3 HB2 hLen HS HT HT2 HS1 HJL hx
     go_wp2_with fail
     exact⟨⟨k+1,by go_num,by omega,HX5.out⟩,by simp[intOf];omega⟩
   ·obtain rfl:k=n:=by omega
    have ht:l.take k=l:=List.take_of_length_le (by omega)
    have HX2:=Lib.hid HX.out
    rw[ht] at HX2
    have hj0:jE l=0:=HJ.out.2 (by have:=HX2.out.2.2.2;omega)
    have HJ0:=Lib.hid hj0
    have HS:=Lib.hid (string_any B B _ wr HX2.out.1 HX2.out.2.2.1)
    clear HX ht hj0 P HOK
    go_wp2_with fail
    refine HS.out.mono ?_
    rintro e2 w2 ⟨rfl,hb2⟩
    have HB5:=Lib.hid (HB.out.trans ((HX2.out.2.1.trans hb2).mono hlt))
    clear hb2 HS
    go_wp2_with fail
    go_ret2
    rw[jS_ok HJ0.out,HJ0.out]
    exact⟨rfl,HB5.out⟩
 ·have hje:jE l=rowE none l:=by unfold jE;rw[if_pos hr]
  have hjs:=jS_no (l:=l) (by rw[hje];exact hr)
  rw[hje,hjs]
  generalize rowE none l=x at *
  have hb1:(x != 0)=true:=by rw[bne_iff_ne];exact hr
  have hb2:(x==0)=false:=by rw[beq_eq_false_iff_ne];exact hr
  clear hje hjs
  go_enter Tryz.func27, Tryz.ntmps27
  go_wp2_with fail
  refine HW.out.mono ?_
  rintro e1 w1 ⟨rfl,hb1⟩
  have HB1:=Lib.hid hb1
  clear hb1
  go_wp2_with fail
  go_ret2
  exact⟨rfl,HB1.out⟩
end Rd
end Go.Proofs.YtlnbjikooadmoaaGreat
namespace Go.Proofs.YtlnbjikooadmoaaGreat
namespace Rd
open Go.RowKit Vi Bd
theorem vget_ok (w:World) (p n len:Nat) (s:ByteArray) (hs:s.size<=1000000) (hp:p<=s.size) (hg:gv 0 0 (s.data.toList.drop p)=(n,len,0)) :
  Calls Tryz.prog 145 #[.string s,.int .i64 (p:Int)] w fun e w'=>e=.returned (.tuple #[.int .i64 (n:Int),.int .i64 ((p+len:Nat):Int),.int .i64 0])/\w=w':=by
 have hl:s.data.toList.length=s.size:=rfl
 have hgv:getV s.data.toList (p:Int)=((n:Int),((p+len:Nat):Int),0):=by
  unfold getV
  rw[if_neg (by rw[hl];omega),Int.toNat_natCast,hg]
  simp
 have hv:=get_any s (p:Int) w hs
 rw[hgv] at hv
 exact hv
theorem vget_no (w:World) (p:Nat) (s:ByteArray) (hs:s.size<=1000000) (hp:p<=s.size) (hg:(gv 0 0 (s.data.toList.drop p)).2.2≠0) :
  Calls Tryz.prog 145 #[.string s,.int .i64 (p:Int)] w fun e w'=>e=.returned (.tuple #[.int .i64 0,.int .i64 0,.int .i64 (gv 0 0 (s.data.toList.drop p)).2.2])/\w=w':=by
 have hl:s.data.toList.length=s.size:=rfl
 have hgv:getV s.data.toList (p:Int)=(0,0,(gv 0 0 (s.data.toList.drop p)).2.2):=by
  unfold getV
  rw[if_neg (by rw[hl];omega),Int.toNat_natCast,if_neg hg]
 have hv:=get_any s (p:Int) w hs
 rw[hgv] at hv
 exact hv
theorem gv_in (s:ByteArray) (p n len:Nat) (hp:p<=s.size) (hg:gv 0 0 (s.data.toList.drop p)=(n,len,0)):n<9223372036854775808/\p+len<=s.size:=by
 obtain⟨m,rest,h1,h2,h3,h4,-⟩:=gv_some _ 0 0 n len hg
 have:=congrArg List.length h1
 rw[List.length_drop,List.length_append] at this
 have hl:s.data.toList.length=s.size:=rfl
 simp only[Nat.pow_zero,Nat.mul_one,Nat.zero_add,Nat.sub_zero] at h2 h3 h4
 have e:(128:Nat)^9=9223372036854775808:=by decide
 omega
theorem extract_mid (s:ByteArray) (p z:Nat):s.extract p (p+z)=⟨((s.data.toList.drop p).take z).toArray⟩:=by
 apply ByteArray.ext
 apply Array.ext'
 rw[ByteArray.data_extract]
 rw[Array.toList_extract]
 simp[List.extract_eq_take_drop]
def Row3 (w:World) (b:Nat) (x y z:Nat):Prop:=w.heap[b]? =some (.cells #[.int .i64 (x:Int),.int .i64 (y:Int),.int .i64 (z:Int)] 56 (0,0))
section
variable {w w':World} {b x y z:Nat}
theorem Row3.c0 (h:Row3 w b x y z):w.cell? ⟨b,0,none⟩=some (.int .i64 (x:Int)):=by rw[cell_of_row w b 0 _ _ (0,0) h];rfl
theorem Row3.c1 (h:Row3 w b x y z):w.cell? ⟨b,1,none⟩=some (.int .i64 (y:Int)):=by rw[cell_of_row w b 1 _ _ (0,0) h];rfl
theorem Row3.c2 (h:Row3 w b x y z):w.cell? ⟨b,2,none⟩=some (.int .i64 (z:Int)):=by rw[cell_of_row w b 2 _ _ (0,0) h];rfl
theorem Row3.fz (h:Row3 w b x y z) (j:Nat):w.frozen? ⟨b,j,none⟩=false:=frozen_of_row w b j _ _ h
theorem Row3.set0 (h:Row3 w b x y z) (u:Nat):Row3 (w.setCell ⟨b,0,none⟩ (.int .i64 (u:Int))) b u y z:=by
 unfold Row3 at *
 simp[World.setCell,Array.getElem?_modify,h]
theorem Row3.set1 (h:Row3 w b x y z) (u:Nat):Row3 (w.setCell ⟨b,1,none⟩ (.int .i64 (u:Int))) b x u z:=by
 unfold Row3 at *
 simp[World.setCell,Array.getElem?_modify,h]
theorem Row3.set2 (h:Row3 w b x y z) (u:Nat):Row3 (w.setCell ⟨b,2,none⟩ (.int .i64 (u:Int))) b x y u:=by
 unfold Row3 at *
 simp[World.setCell,Array.getElem?_modify,h]
end
def Res (w:World) (b:Nat):Prop:=w.heap[b]? =some (.cells #[.int .i64 0,.int .i64 0,.string ⟨#[]⟩] 31 (0,0))
section
variable {w w':World} {b:Nat}
theorem Res.c0 (h:Res w b):w.cell? ⟨b,0,none⟩=some (.int .i64 0):=by rw[cell_of_row w b 0 _ _ (0,0) h];rfl
theorem Res.c1 (h:Res w b):w.cell? ⟨b,1,none⟩=some (.int .i64 0):=by rw[cell_of_row w b 1 _ _ (0,0) h];rfl
theorem Res.c2 (h:Res w b):w.cell? ⟨b,2,none⟩=some (.string ⟨#[]⟩):=by rw[cell_of_row w b 2 _ _ (0,0) h];rfl
theorem Res.fz (h:Res w b) (j:Nat):w.frozen? ⟨b,j,none⟩=false:=frozen_of_row w b j _ _ h
end
theorem rec1_at {b r:List UInt8} {x y z:Nat} (h:fin 3 [] b=(0,[x,y,z],r)) :
  rec1 b=if x<1∨1000000000<x∨1000000000<y∨2000<z then none else if r.length<z then none else some (((x:Int),(y:Int),⟨(r.take z).toArray⟩),r.drop z):=by
 simp only[rec1,h]
theorem rec1_err {b:List UInt8} (h:(fin 3 [] b).1≠0):rec1 b=none:=by
 unfold rec1
 split
 ·rename_i he;rw[he] at h;exact absurd rfl h
 ·rfl
theorem Res.fill {w w':World} {b:Nat} (h:Res w b) (q t:Int) (d:ByteArray) (hw:w'=((w.setCell ⟨b,0,none⟩ (.int .i64 q)).setCell ⟨b,1,none⟩ (.int .i64 t)).setCell ⟨b,2,none⟩ (.string d)) :
  w'.cell? ⟨b,0,none⟩=some (.int .i64 q)/\w'.cell? ⟨b,1,none⟩=some (.int .i64 t)/\w'.cell? ⟨b,2,none⟩=some (.string d):=by
 have hh:w'.heap[b]? =some (.cells #[.int .i64 q,.int .i64 t,.string d] 31 (0,0)):=by
  rw[hw]
  unfold Res at h
  simp[World.setCell,Array.getElem?_modify,h]
 exact⟨by rw[cell_of_row w' b 0 _ _ (0,0) hh];rfl,by rw[cell_of_row w' b 1 _ _ (0,0) hh];rfl,by rw[cell_of_row w' b 2 _ _ (0,0) hh];rfl⟩
theorem below_fill {w w':World} {b B:Nat} {v0 v1 v2:Value} (h:Below B w w') (hb:B<=b):Below B w (((w'.setCell ⟨b,0,none⟩ v0).setCell ⟨b,1,none⟩ v1).setCell ⟨b,2,none⟩ v2) :=
 ((h.setCell (p:=⟨b,0,none⟩) hb v0).setCell (p:=⟨b,1,none⟩) hb v1).setCell (p:=⟨b,2,none⟩) hb v2
def getQ (b:List UInt8) (p:Nat) (e:Ending):Prop:=(∃r b',rec1 b=some (r,b')/\e=.returned (.tuple #[rv r,.int .i64 ((p+(recB r).length:Nat):Int),.int .i64 0])) ∨
 (rec1 b=none/\ ∃x,e=.returned (.tuple #[rv (0,0,⟨#[]⟩),.int .i64 0,.int .i64 x])/\x≠0)
set_option maxHeartbeats 6400000 in
set_option maxRecDepth 100000 in
theorem rget_any (s:ByteArray) (p:Nat) (w:World) (hs:s.size<=1000000) (hp:p<=s.size) :
  Calls Tryz.prog 157 #[.string s,.int .i64 (p:Int)] w fun e w'=>getQ (s.data.toList.drop p) p e/\Below w.heap.size w w':=by
 have mixed:Tryz.prog.follows .mixedOrders=true:=by kernel_rfl
 obtain⟨F,hF⟩:∃F,F=fin 3 [] (s.data.toList.drop p):=⟨_,rfl⟩
 have HF:=Lib.hid hF
 clear hF
 go_enter Tryz.func157, Tryz.ntmps157
 go_wp2_with fail
 go_step3
 go_wp2_with fail
 go_step3
 go_wp2_with fail
 have hr3:Row3 ((w.alloc (.cells #[.int .i64 0,.int .i64 0,.string ⟨#[]⟩] 31)).alloc (.cells #[.int .i64 0,.int .i64 0,.int .i64 0] 56)) (w.heap.size+1) 0 0 0:=by
  have:=heap_alloc_new (w.alloc (.cells #[.int .i64 0,.int .i64 0,.string ⟨#[]⟩] 31)) (.cells #[.int .i64 0,.int .i64 0,.int .i64 0] 56)
  rwa [show(w.alloc (.cells #[.int .i64 0,.int .i64 0,.string ⟨#[]⟩] 31)).heap.size=w.heap.size+1 by simp] at this
 have hrs:Res ((w.alloc (.cells #[.int .i64 0,.int .i64 0,.string ⟨#[]⟩] 31)).alloc (.cells #[.int .i64 0,.int .i64 0,.int .i64 0] 56)) w.heap.size :=
  (Below.heap_alloc _ _ w.heap.size (by simp)).trans (heap_alloc_new w _)
 have hbw:Below w.heap.size w ((w.alloc (.cells #[.int .i64 0,.int .i64 0,.string ⟨#[]⟩] 31)).alloc (.cells #[.int .i64 0,.int .i64 0,.int .i64 0] 56)):=((Below.refl _ _).alloc (Nat.le_refl _) _).alloc (by simp) _
 generalize (w.alloc (.cells #[.int .i64 0,.int .i64 0,.string ⟨#[]⟩] 31)).alloc (.cells #[.int .i64 0,.int .i64 0,.int .i64 0] 56)=w0 at *
 have H0:=Lib.hid (And.intro hr3 (And.intro hrs hbw))
 clear hr3 hrs hbw
 go_loopw [1,9] (fun a i wr=>∃(k x y z p':Nat),a=.int .i64 (p':Int)/\i=.int .i64 (k:Int)/\k<=3/\p'<=s.size/\x<9223372036854775808/\y<9223372036854775808/\z<9223372036854775808 /\
  Hid (F=fin (3-k) ([x,y,z].take k) (s.data.toList.drop p')/\Row3 wr (w.heap.size+1) x y z/\Res wr w.heap.size/\Below w.heap.size w wr)) (fun _ i _=>3-(intOf i).toNat)
 case atStart=>exact⟨0,0,0,0,p,rfl,rfl,by omega,hp,by omega,by omega,by omega,HF.out,H0.out⟩
 case round =>
  obtain⟨k,x,y,z,p',rfl,rfl,hk,hp',hx,hy,hz,HX⟩:=hrel
  by_cases hk3:k<3
  ·by_cases hg:(gv 0 0 (s.data.toList.drop p')).2.2=0
   ·obtain⟨u,len,hgv⟩:∃u len,gv 0 0 (s.data.toList.drop p')=(u,len,0):=⟨_,_,by rw[<-hg]⟩
    obtain⟨hu,hlen⟩:=gv_in s p' u len hp' hgv
    have HG:=Lib.hid (vget_ok wr p' u len s hs hp' hgv)
    have hstep:fin (3-k) ([x,y,z].take k) (s.data.toList.drop p')=fin (3-(k+1)) ([x,y,z].take k++[u]) (s.data.toList.drop (p'+len)):=by
     rw[show 3-k=(3-(k+1))+1 by omega,fin,if_neg (by simp[hg]),hgv,List.drop_drop]
    have HST:=Lib.hid (HX.out.1.trans hstep)
    clear hstep hg hgv
    obtain rfl|rfl|rfl:k=0∨k=1∨k=2:=by omega
    ·have hc:=HX.out.2.1.c0
     have hf:=HX.out.2.1.fz 0
     have HN:=Lib.hid (show Row3 (wr.setCell ⟨w.heap.size+1,0,none⟩ (.int .i64 (u:Int))) (w.heap.size+1) u y z/\Res (wr.setCell ⟨w.heap.size+1,0,none⟩ (.int .i64 (u:Int))) w.heap.size/\Below w.heap.size w (wr.setCell ⟨w.heap.size+1,0,none⟩ (.int .i64 (u:Int))) from
      ⟨HX.out.2.1.set0 u,(Below.heap_setCell wr ⟨w.heap.size+1,0,none⟩ _ w.heap.size (by simp)).trans HX.out.2.2.1,HX.out.2.2.2.setCell (p:=⟨w.heap.size+1,0,none⟩) (by simp) _⟩)
     have HST2:=Lib.hid (show F=fin (3-1) ([u,y,z].take 1) (s.data.toList.drop (p'+len)) from HST.out)
     clear HX HST
     go_wp2_with fail
     refine HG.out.mono ?_
     rintro e1 w1 ⟨rfl,rfl⟩
     clear HG
     go_wp2
     exact⟨⟨1,u,y,z,p'+len,by go_num,rfl,by omega,by omega,by omega,by omega,by omega,HST2.out,HN.out⟩,by simp[intOf]⟩
    ·have hc:=HX.out.2.1.c1
     have hf:=HX.out.2.1.fz 1
     have HN:=Lib.hid (show Row3 (wr.setCell ⟨w.heap.size+1,1,none⟩ (.int .i64 (u:Int))) (w.heap.size+1) x u z/\Res (wr.setCell ⟨w.heap.size+1,1,none⟩ (.int .i64 (u:Int))) w.heap.size/\Below w.heap.size w (wr.setCell ⟨w.heap.size+1,1,none⟩ (.int .i64 (u:Int))) from
      ⟨HX.out.2.1.set1 u,(Below.heap_setCell wr ⟨w.heap.size+1,1,none⟩ _ w.heap.size (by simp)).trans HX.out.2.2.1,HX.out.2.2.2.setCell (p:=⟨w.heap.size+1,1,none⟩) (by simp) _⟩)
     have HST2:=Lib.hid (show F=fin (3-2) ([x,u,z].take 2) (s.data.toList.drop (p'+len)) from HST.out)
     clear HX HST
     go_wp2_with fail
     refine HG.out.mono ?_
     rintro e1 w1 ⟨rfl,rfl⟩
     clear HG
     go_wp2
     exact⟨⟨2,x,u,z,p'+len,by go_num,rfl,by omega,by omega,by omega,by omega,by omega,HST2.out,HN.out⟩,by simp[intOf]⟩
    ·have hc:=HX.out.2.1.c2
     have hf:=HX.out.2.1.fz 2
     have HN:=Lib.hid (show Row3 (wr.setCell ⟨w.heap.size+1,2,none⟩ (.int .i64 (u:Int))) (w.heap.size+1) x y u/\Res (wr.setCell ⟨w.heap.size+1,2,none⟩ (.int .i64 (u:Int))) w.heap.size/\Below w.heap.size w (wr.setCell ⟨w.heap.size+1,2,none⟩ (.int .i64 (u:Int))) from
      ⟨HX.out.2.1.set2 u,(Below.heap_setCell wr ⟨w.heap.size+1,2,none⟩ _ w.heap.size (by simp)).trans HX.out.2.2.1,HX.out.2.2.2.setCell (p:=⟨w.heap.size+1,2,none⟩) (by simp) _⟩)
     have HST2:=Lib.hid (show F=fin (3-3) ([x,y,u].take 3) (s.data.toList.drop (p'+len)) from HST.out)
     clear HX HST
     go_wp2_with fail
     refine HG.out.mono ?_
     rintro e1 w1 ⟨rfl,rfl⟩
     clear HG
     go_wp2
     exact⟨⟨3,x,y,u,p'+len,by go_num,rfl,by omega,by omega,by omega,by omega,by omega,HST2.out,HN.out⟩,by simp[intOf]⟩
   ·have HG:=Lib.hid (vget_no wr p' s hs hp' hg)
    have hstep:(fin (3-k) ([x,y,z].take k) (s.data.toList.drop p')).1=(gv 0 0 (s.data.toList.drop p')).2.2:=by
     rw[show 3-k=(3-(k+1))+1 by omega,fin,if_pos hg]
    have hno:rec1 (s.data.toList.drop p)=none:=rec1_err (by rw[<-HF.out,HX.out.1,hstep];exact hg)
    have HNO:=Lib.hid hno
    generalize hxx:(gv 0 0 (s.data.toList.drop p')).2.2=xx at *
    have hb0:(xx==0)=false:=by rw[beq_eq_false_iff_ne];exact hg
    clear hstep hno hxx
    have cr0:=HX.out.2.2.1.c0
    have cr1:=HX.out.2.2.1.c1
    have cr2:=HX.out.2.2.1.c2
    have fr0:=HX.out.2.2.1.fz 0
    have fr1:=HX.out.2.2.1.fz 1
    have fr2:=HX.out.2.2.1.fz 2
    obtain rfl|rfl|rfl:k=0∨k=1∨k=2:=by omega
    ·have hc:=HX.out.2.1.c0
     have hf:=HX.out.2.1.fz 0
     have HRS:=Lib.hid ((Below.heap_setCell wr ⟨w.heap.size+1,0,none⟩ (.int .i64 0) w.heap.size (by simp)).trans HX.out.2.2.1)
     have HB:=Lib.hid (HX.out.2.2.2.setCell (p:=⟨w.heap.size+1,0,none⟩) (by simp) (.int .i64 0))
     clear HX
     go_wp2_with fail
     refine HG.out.mono ?_
     rintro e1 w1 ⟨rfl,rfl⟩
     clear HG
     go_wp2
     obtain⟨e0,e1,e2⟩:=Res.fill HRS.out 0 0 ⟨#[]⟩ rfl
     rw[Exit.noGoto_ret]
     change bodyPost _ _ _ _ _ _
     refine bodyPost_ret (v:=.tuple #[rv (0,0,⟨#[]⟩),.int .i64 0,.int .i64 xx]) ?_ rfl ?_
     ·simp[results,go_sem,e0,e1,e2,rv]
     ·exact⟨.inr ⟨HNO.out,xx,rfl,hg⟩,below_fill HB.out (Nat.le_refl _)⟩
    ·have hc:=HX.out.2.1.c1
     have hf:=HX.out.2.1.fz 1
     have HRS:=Lib.hid ((Below.heap_setCell wr ⟨w.heap.size+1,1,none⟩ (.int .i64 0) w.heap.size (by simp)).trans HX.out.2.2.1)
     have HB:=Lib.hid (HX.out.2.2.2.setCell (p:=⟨w.heap.size+1,1,none⟩) (by simp) (.int .i64 0))
     clear HX
     go_wp2_with fail
     refine HG.out.mono ?_
     rintro e1 w1 ⟨rfl,rfl⟩
     clear HG
     go_wp2
     obtain⟨e0,e1,e2⟩:=Res.fill HRS.out 0 0 ⟨#[]⟩ rfl
     rw[Exit.noGoto_ret]
     change bodyPost _ _ _ _ _ _
     refine bodyPost_ret (v:=.tuple #[rv (0,0,⟨#[]⟩),.int .i64 0,.int .i64 xx]) ?_ rfl ?_
     ·simp[results,go_sem,e0,e1,e2,rv]
     ·exact⟨.inr ⟨HNO.out,xx,rfl,hg⟩,below_fill HB.out (Nat.le_refl _)⟩
    ·have hc:=HX.out.2.1.c2
     have hf:=HX.out.2.1.fz 2
     have HRS:=Lib.hid ((Below.heap_setCell wr ⟨w.heap.size+1,2,none⟩ (.int .i64 0) w.heap.size (by simp)).trans HX.out.2.2.1)
     have HB:=Lib.hid (HX.out.2.2.2.setCell (p:=⟨w.heap.size+1,2,none⟩) (by simp) (.int .i64 0))
     clear HX
     go_wp2_with fail
     refine HG.out.mono ?_
     rintro e1 w1 ⟨rfl,rfl⟩
     clear HG
     go_wp2
     obtain⟨e0,e1,e2⟩:=Res.fill HRS.out 0 0 ⟨#[]⟩ rfl
     rw[Exit.noGoto_ret]
     change bodyPost _ _ _ _ _ _
     refine bodyPost_ret (v:=.tuple #[rv (0,0,⟨#[]⟩),.int .i64 0,.int .i64 xx]) ?_ rfl ?_
     ·simp[results,go_sem,e0,e1,e2,rv]
     ·exact⟨.inr ⟨HNO.out,xx,rfl,hg⟩,below_fill HB.out (Nat.le_refl _)⟩
  ·obtain rfl:k=3:=by omega
   have hfin:fin 3 [] (s.data.toList.drop p)=(0,[x,y,z],s.data.toList.drop p'):=HF.out.symm.trans HX.out.1
   have hrec:=rec1_at hfin
   have hl:s.data.toList.length=s.size:=rfl
   rw[List.length_drop,hl] at hrec
   have HREC:=Lib.hid hrec
   have HFIN:=Lib.hid hfin
   have c0:=HX.out.2.1.c0
   have c1:=HX.out.2.1.c1
   have c2:=HX.out.2.1.c2
   have cr0:=HX.out.2.2.1.c0
   have cr1:=HX.out.2.2.1.c1
   have cr2:=HX.out.2.2.1.c2
   have fr0:=HX.out.2.2.1.fz 0
   have fr1:=HX.out.2.2.1.fz 1
   have fr2:=HX.out.2.2.1.fz 2
   clear hrec hfin hl
   by_cases hbad:x<1∨1000000000<x∨1000000000<y∨2000<z
   ·have hno:rec1 (s.data.toList.drop p)=none:=by rw[HREC.out,if_pos hbad]
    have HNO:=Lib.hid hno
    obtain⟨e0,e1,e2⟩:=Res.fill HX.out.2.2.1 0 0 ⟨#[]⟩ rfl
    have HB:=Lib.hid (HX.out.2.2.2)
    clear HX hno HREC HFIN
    by_cases h1:(x:Int)<1
    ·skip
     go_wp2
     try rw[Exit.noGoto_ret]
     change bodyPost _ _ _ _ _ _
     refine bodyPost_ret (v:=.tuple #[rv (0,0,⟨#[]⟩),.int .i64 0,.int .i64 150]) ?_ rfl ?_
     ·simp[results,go_sem,e0,e1,e2,rv]
     ·exact⟨.inr ⟨HNO.out,150,rfl,by decide⟩,below_fill HB.out (Nat.le_refl _)⟩
    by_cases h2:(1000000000:Int)<(x:Int)
    ·skip
     go_wp2
     try rw[Exit.noGoto_ret]
     change bodyPost _ _ _ _ _ _
     refine bodyPost_ret (v:=.tuple #[rv (0,0,⟨#[]⟩),.int .i64 0,.int .i64 150]) ?_ rfl ?_
     ·simp[results,go_sem,e0,e1,e2,rv]
     ·exact⟨.inr ⟨HNO.out,150,rfl,by decide⟩,below_fill HB.out (Nat.le_refl _)⟩
    by_cases h3:(1000000000:Int)<(y:Int)
    ·skip
     go_wp2
     try rw[Exit.noGoto_ret]
     change bodyPost _ _ _ _ _ _
     refine bodyPost_ret (v:=.tuple #[rv (0,0,⟨#[]⟩),.int .i64 0,.int .i64 150]) ?_ rfl ?_
     ·simp[results,go_sem,e0,e1,e2,rv]
     ·exact⟨.inr ⟨HNO.out,150,rfl,by decide⟩,below_fill HB.out (Nat.le_refl _)⟩
    have h4:(2000:Int)<(z:Int):=by omega
    go_wp2
    try rw[Exit.noGoto_ret]
    change bodyPost _ _ _ _ _ _
    refine bodyPost_ret (v:=.tuple #[rv (0,0,⟨#[]⟩),.int .i64 0,.int .i64 150]) ?_ rfl ?_
    ·simp[results,go_sem,e0,e1,e2,rv]
    ·exact⟨.inr ⟨HNO.out,150,rfl,by decide⟩,below_fill HB.out (Nat.le_refl _)⟩
   have h1: ¬ (x:Int)<1:=by omega
   have h2: ¬ (1000000000:Int)<(x:Int):=by omega
   have h3: ¬ (1000000000:Int)<(y:Int):=by omega
   have h4: ¬ (2000:Int)<(z:Int):=by omega
   by_cases hsh:s.size-p'<z
   ·have hno:rec1 (s.data.toList.drop p)=none:=by rw[HREC.out,if_neg hbad,if_pos hsh]
    have HNO:=Lib.hid hno
    obtain⟨e0,e1,e2⟩:=Res.fill HX.out.2.2.1 0 0 ⟨#[]⟩ rfl
    have HB:=Lib.hid (HX.out.2.2.2)
    have h5:(s.size:Int)-(p':Int)<(z:Int):=by omega
    clear HX hno HREC HFIN
    go_wp2
    try rw[Exit.noGoto_ret]
    change bodyPost _ _ _ _ _ _
    refine bodyPost_ret (v:=.tuple #[rv (0,0,⟨#[]⟩),.int .i64 0,.int .i64 4]) ?_ rfl ?_
    ·simp[results,go_sem,e0,e1,e2,rv]
    ·exact⟨.inr ⟨HNO.out,4,rfl,by decide⟩,below_fill HB.out (Nat.le_refl _)⟩
   ·have hyes:rec1 (s.data.toList.drop p)=some (((x:Int),(y:Int),⟨((s.data.toList.drop p').take z).toArray⟩),(s.data.toList.drop p').drop z):=by rw[HREC.out,if_neg hbad,if_neg hsh]
    have HYES:=Lib.hid hyes
    have h5: ¬ (s.size:Int)-(p':Int)<(z:Int):=by omega
    clear hyes HREC
    go_wp2
    have i1:(p':Int)<=(p':Int)+(z:Int):=by omega
    have i2:(p':Int)+(z:Int)<=(s.size:Int):=by omega
    have i3:((p':Int)+(z:Int)).toNat=p'+z:=by omega
    have i4:(0:Int)<=(p':Int):=by omega
    have i5:IntKind.i64.wrap ((p':Int)+(z:Int))=(p':Int)+(z:Int):=by rw[IntKind.wrap_i64];omega
    have i6:((p':Int)).toNat=p':=by omega
    go_region
    all_goals
     obtain⟨e0,e1,e2⟩:=Res.fill HX.out.2.2.1 (x:Int) (y:Int) (s.extract p' (p'+z)) rfl
     have HB:=Lib.hid (HX.out.2.2.2)
     have hex:=extract_mid s p' z
     obtain⟨hok,happ⟩:=rec1_some _ _ _ HYES.out
     have hlen:=congrArg List.length happ
     have hl:s.data.toList.length=s.size:=rfl
     rw[List.length_append,List.length_drop,List.length_drop,List.length_drop,hl] at hlen
     have HL:=Lib.hid hlen
     have HEX:=Lib.hid hex
     clear HX hlen happ hok hex hl
     go_wp2
     try rw[Exit.noGoto_ret]
     change bodyPost _ _ _ _ _ _
     refine bodyPost_ret (v:=.tuple #[.agg #[.int .i64 (x:Int),.int .i64 (y:Int),.string (s.extract p' (p'+z))],.int .i64 ((p':Int)+(z:Int)),.int .i64 0]) ?_ rfl ?_
     ·simp[results,go_sem,e0,e1,e2]
     ·refine⟨.inl ⟨_,_,HYES.out,?_⟩,below_drewN (n:=1) (below_fill HB.out (Nat.le_refl _))⟩
      rw[HEX.out]
      have:=HL.out
      have e9:(p':Int)+(z:Int)=((p+(recB ((x:Int),(y:Int),⟨((s.data.toList.drop p').take z).toArray⟩)).length:Nat):Int):=by omega
      rw[e9]
      rfl
end Rd
end Go.Proofs.YtlnbjikooadmoaaGreat
namespace Go.Proofs.YtlnbjikooadmoaaGreat
namespace Bk
open Vi Sq Rd
def at3 (l:List (Int×Int×ByteArray)) (k:Nat):Int×Int×ByteArray:=l.getD k (0,0,⟨#[]⟩)
def isP (l:List (Int×Int×ByteArray)) (A:List Nat):Bool:=decide ((packed (joinB l) A).length<(joinB l).length)
def body (l:List (Int×Int×ByteArray)) (A:List Nat):List UInt8:=if isP l A=true then packed (joinB l) A else joinB l
def mode (l:List (Int×Int×ByteArray)) (A:List Nat):Nat:=if isP l A=true then 1 else 0
def hd5 (l:List (Int×Int×ByteArray)):List Nat:=[(joinB l).length,l.length,(at3 l 0).1.toNat,(at3 l 0).2.1.toNat,((at3 l (l.length-1)).2.1-(at3 l 0).2.1).toNat]
def blk (l:List (Int×Int×ByteArray)) (A:List Nat):List UInt8:=UInt8.ofNat (mode l A)::((hd5 l).flatMap putV++body l A)
def encE (l:List (Int×Int×ByteArray)):Int:=if l=[] then 2 else jE l
def lateOf (early more:Nat):Nat:=if more<=1000000000/\early<=1000000000 then early+more else 9223372036854775807
def mayH (md raw count first early late:Nat):Bool:=decide (md<=1/\raw<=20000/\1<=count/\count<=raw/\1<=first/\first+count<=1000000001/\early<=1000000000/\late<=1000000000)
def peekB:List UInt8->Option (Nat×Nat×Nat×Nat×Nat×Nat×List UInt8)
 | []=>none
 |m::b=>match fin 5 [] b with
  |(0,[raw,count,first,early,more],r)=>if mayH m.toNat raw count first early (lateOf early more)=true then some (m.toNat,raw,count,first,early,lateOf early more,r) else none
  |_=>none
def rawB (md raw:Nat) (b:List UInt8):Option (List UInt8):=match (if md=1 then unS b else some b) with
 |none=>none
 |some s=>if s.length≠raw then none else some s
def fits (l:List (Int×Int×ByteArray)) (count first early late:Nat):Bool:=decide (l.length=count/\(at3 l 0).1=first/\(at3 l 0).2.1=early/\(at3 l (l.length-1)).2.1=late)
def dec (b:List UInt8):Option (List (Int×Int×ByteArray)):=match peekB b with
 |none=>none
 |some (md,raw,count,first,early,late,r)=>match rawB md raw r with
  |none=>none
  |some s=>match split s with
   |none=>none
   |some l=>if fits l count first early late=true then some l else none
theorem row_seq:∀(l:List (Int×Int×ByteArray)) (p:Int×Int×ByteArray),rowE (some p) l=0-> ∀(k:Nat) (r:Int×Int×ByteArray),l[k]? =some r->r.1=p.1+(k:Int)+1/\p.2.1<=r.2.1/\ok1 r=true/\ ∀(j:Nat) (r':Int×Int×ByteArray),k<=j->l[j]? =some r'->r.2.1<=r'.2.1
 | [],_,_,k,r,h=>by simp at h
 |x::l,p,h,k,r,hk=>by
  rw[rowE] at h
  split at h;·simp at h
  rename_i ho
  split at h;·simp at h
  rename_i hf
  have ho:ok1 x=true:=by simpa using ho
  have hx:x.1=p.1+1/\p.2.1<=x.2.1:=by
   simp only[off,decide_eq_true_eq] at hf
   omega
  have ih:=row_seq l x h
  rcases k with _|k
  ·simp at hk;subst hk
   refine⟨by simp;omega,hx.2,ho,?_⟩
   intro j r' _ hj
   rcases j with _|j
   ·simp at hj;subst hj;exact Int.le_refl _
   ·exact(ih j r' (by simpa using hj)).2.1
  ·obtain⟨h1,h2,h3,h4⟩:=ih k r (by simpa using hk)
   refine⟨by rw[h1,hx.1];push_cast;omega,by omega,h3,?_⟩
   intro j r' hkj hj
   obtain⟨j,rfl⟩:∃i,j=i+1:=⟨j-1,by omega⟩
   exact h4 j r' (by omega) (by simpa using hj)
theorem row_seq0 (l:List (Int×Int×ByteArray)) (h:rowE none l=0) (k:Nat) (r:Int×Int×ByteArray) (hk:l[k]? =some r) :
  r.1=(at3 l 0).1+(k:Int)/\(at3 l 0).2.1<=r.2.1/\ok1 r=true/\ ∀(j:Nat) (r':Int×Int×ByteArray),k<=j->l[j]? =some r'->r.2.1<=r'.2.1:=by
 rcases l with _|⟨x,l⟩
 ·simp at hk
 rw[rowE] at h
 split at h;·simp at h
 rename_i ho
 split at h;·simp at h
 have ho:ok1 x=true:=by simpa using ho
 have e:at3 (x::l) 0=x:=rfl
 rw[e]
 have ih:=row_seq l x h
 rcases k with _|k
 ·simp at hk;subst hk
  refine⟨by simp,Int.le_refl _,ho,?_⟩
  intro j r' _ hj
  rcases j with _|j
  ·simp at hj;subst hj;exact Int.le_refl _
  ·exact(ih j r' (by simpa using hj)).2.1
 ·obtain⟨h1,h2,h3,h4⟩:=ih k r (by simpa using hk)
  refine⟨by rw[h1];push_cast;omega,h2,h3,?_⟩
  intro j r' hkj hj
  obtain⟨j,rfl⟩:∃i,j=i+1:=⟨j-1,by omega⟩
  exact h4 j r' (by omega) (by simpa using hj)
theorem at3_get (l:List (Int×Int×ByteArray)) (k:Nat) (h:k<l.length):l[k]? =some (at3 l k):=by
 unfold at3;rw[List.getD_eq_getElem?_getD,List.getElem?_eq_getElem h];rfl
theorem joinB_ge:∀(l:List (Int×Int×ByteArray)),3*l.length<=(joinB l).length
 | []=>by simp
 |r::l=>by
  have e:joinB (r::l)=recB r++joinB l:=List.flatMap_cons ..
  have:=recB_length r
  have:=joinB_ge l
  rw[e,List.length_append,List.length_cons];omega
theorem jE_row {l:List (Int×Int×ByteArray)} (h:jE l=0):rowE none l=0/\(joinB l).length<=20000:=by
 unfold jE at h
 split at h
 ·rename_i h1;exact absurd h h1
 split at h;·simp at h
 rename_i h1 h2
 exact⟨by simpa using h1,by omega⟩
theorem ends {l:List (Int×Int×ByteArray)} (h:jE l=0) (hn:l≠ []) :
  1<=(at3 l 0).1/\(at3 l 0).1+l.length<=1000000001/\0<=(at3 l 0).2.1/\(at3 l 0).2.1<=(at3 l (l.length-1)).2.1/\(at3 l (l.length-1)).2.1<=1000000000/\l.length<=6667:=by
 obtain⟨h1,h2⟩:=jE_row h
 have hp:0<l.length:=List.length_pos_iff.2 hn
 have h3:=joinB_ge l
 obtain⟨a1,a2,a3,a4⟩:=row_seq0 l h1 0 _ (at3_get l 0 hp)
 obtain⟨b1,b2,b3,b4⟩:=row_seq0 l h1 (l.length-1) _ (at3_get l (l.length-1) (by omega))
 rw[ok1_iff] at a3 b3
 refine⟨a3.1,?_,a3.2.2.1,b2,b3.2.2.2.1,by omega⟩
 have:=b3.2.1
 omega
theorem hd5_lt {l:List (Int×Int×ByteArray)} (h:jE l=0) (hn:l≠ []):∀n∈hd5 l,n<9223372036854775808:=by
 obtain⟨e1,e2,e3,e4,e5,e6⟩:=ends h hn
 obtain⟨h1,h2⟩:=jE_row h
 intro n hm
 simp only[hd5,List.mem_cons,List.not_mem_nil,or_false] at hm
 omega
theorem fin_flat:∀(l acc:List Nat) (r:List UInt8),(∀n∈l,n<9223372036854775808)->fin l.length acc (l.flatMap putV++r)=(0,acc++l,r)
 | [],acc,r,_=>by simp[fin]
 |n::l,acc,r,h=>by
  rw[List.flatMap_cons,List.append_assoc,List.length_cons,fin_put n (h n (List.mem_cons_self ..)),fin_flat l _ r (fun x hx=>h x (List.mem_cons_of_mem _ hx))]
  simp
theorem mode_le (l:List (Int×Int×ByteArray)) (A:List Nat):mode l A<=1:=by unfold mode;split<;>omega
theorem peek_blk {l:List (Int×Int×ByteArray)} (A:List Nat) (h:jE l=0) (hn:l≠ []) :
  peekB (blk l A)=some (mode l A,(joinB l).length,l.length,(at3 l 0).1.toNat,(at3 l 0).2.1.toNat,(at3 l (l.length-1)).2.1.toNat,body l A):=by
 obtain⟨e1,e2,e3,e4,e5,e6⟩:=ends h hn
 obtain⟨h1,h2⟩:=jE_row h
 have hp:0<l.length:=List.length_pos_iff.2 hn
 have hm:=mode_le l A
 have h3:=joinB_ge l
 have hf:=fin_flat (hd5 l) [] (body l A) (hd5_lt h hn)
 have h5:(hd5 l).length=5:=rfl
 rw[h5,List.nil_append] at hf
 unfold blk
 simp only[peekB,hf]
 simp only[hd5]
 have hl:lateOf (at3 l 0).2.1.toNat ((at3 l (l.length-1)).2.1-(at3 l 0).2.1).toNat=(at3 l (l.length-1)).2.1.toNat:=by
  unfold lateOf;rw[if_pos (by omega)];omega
 rw[hl,toNat_ofNat _ (by omega),if_pos]
 unfold mayH
 simp only[decide_eq_true_eq]
 omega
theorem raw_blk {l:List (Int×Int×ByteArray)} {A:List Nat} (h:jE l=0) (hA:Sx.Sorted (joinB l) A):rawB (mode l A) (joinB l).length (body l A)=some (joinB l):=by
 obtain⟨h1,h2⟩:=jE_row h
 unfold rawB mode body
 by_cases hp:isP l A=true
 ·rw[if_pos hp,if_pos hp,if_pos rfl,back hA h2];simp
 ·rw[if_neg hp,if_neg hp,if_neg (by decide)];simp
theorem dec_blk {l:List (Int×Int×ByteArray)} {A:List Nat} (h:jE l=0) (hn:l≠ []) (hA:Sx.Sorted (joinB l) A):dec (blk l A)=some l:=by
 obtain⟨e1,e2,e3,e4,e5,e6⟩:=ends h hn
 unfold dec
 rw[peek_blk A h hn]
 simp only
 rw[raw_blk h hA]
 simp only
 rw[split_join l h]
 simp only
 rw[if_pos]
 unfold fits
 simp only[decide_eq_true_eq]
 refine⟨trivial,by omega,by omega,by omega⟩
theorem dec_some {b:List UInt8} {l:List (Int×Int×ByteArray)} (h:dec b=some l):jE l=0/\l≠ []:=by
 unfold dec at h
 split at h;·simp at h
 rename_i md raw count first early late r hp
 split at h;·simp at h
 split at h;·simp at h
 rename_i s hs l' hl'
 split at h
 ·rename_i hf
  simp only[Option.some.injEq] at h
  subst h
  refine⟨(split_some _ _ hl').2,?_⟩
  rintro rfl
  simp only[fits,decide_eq_true_eq] at hf
  unfold peekB at hp
  split at hp;·simp at hp
  split at hp
  ·split at hp
   ·rename_i hm
    simp only[Option.some.injEq,Prod.mk.injEq] at hp
    simp only[mayH,decide_eq_true_eq] at hm
    have:=hf.1
    simp at this
    omega
   ·simp at hp
  ·simp at hp
 ·simp at h
theorem blk_len {l:List (Int×Int×ByteArray)} {A:List Nat} (h:jE l=0) (hn:l≠ []):(blk l A).length<=(joinB l).length+26:=by
 obtain⟨e1,e2,e3,e4,e5,e6⟩:=ends h hn
 obtain⟨h1,h2⟩:=jE_row h
 have l1:=length_putV_le (joinB l).length 2 (by omega)
 have l2:=length_putV_le l.length 2 (by omega)
 have l3:=length_putV_le (at3 l 0).1.toNat 4 (by omega)
 have l4:=length_putV_le (at3 l 0).2.1.toNat 4 (by omega)
 have l5:=length_putV_le ((at3 l (l.length-1)).2.1-(at3 l 0).2.1).toNat 4 (by omega)
 have hb:(body l A).length<=(joinB l).length:=by
  unfold body
  split
  ·rename_i hp
   simp only[isP,decide_eq_true_eq] at hp
   omega
  ·exact Nat.le_refl _
 unfold blk hd5
 simp only[List.length_cons,List.length_append,List.flatMap_cons,List.flatMap_nil,List.length_nil]
 omega
theorem enc_ok {l:List (Int×Int×ByteArray)} (h:encE l=0):jE l=0/\l≠ []:=by
 unfold encE at h
 split at h;·simp at h
 exact⟨h,by assumption⟩
end Bk
end Go.Proofs.YtlnbjikooadmoaaGreat
namespace Go.Proofs.YtlnbjikooadmoaaGreat
namespace Bk
open Go.RowKit Tk Vi Sq Rd
open Bt (Frm)
def Hb (w:World) (b:Nat) (raw count first early late md:Int) (bd:ByteArray):Prop :=
 w.heap[b]? =some (.cells #[.int .i64 0,.int .i64 0,.int .i64 raw,.int .i64 count,.int .i64 first,.int .i64 early,.int .i64 late,.int .i64 md,.string bd] 138 (0,0))
section
variable {w w':World} {b:Nat} {raw count first early late md:Int} {bd:ByteArray} (h:Hb w b raw count first early late md bd)
include h
theorem Hb.lt:b<w.heap.size:=(Array.getElem?_eq_some_iff.1 h).1
theorem Hb.c0:w.cell? ⟨b,0,none⟩=some (.int .i64 0):=by rw[cell_of_row w b 0 _ _ (0,0) h];rfl
theorem Hb.c1:w.cell? ⟨b,1,none⟩=some (.int .i64 0):=by rw[cell_of_row w b 1 _ _ (0,0) h];rfl
theorem Hb.c2:w.cell? ⟨b,2,none⟩=some (.int .i64 raw):=by rw[cell_of_row w b 2 _ _ (0,0) h];rfl
theorem Hb.c3:w.cell? ⟨b,3,none⟩=some (.int .i64 count):=by rw[cell_of_row w b 3 _ _ (0,0) h];rfl
theorem Hb.c4:w.cell? ⟨b,4,none⟩=some (.int .i64 first):=by rw[cell_of_row w b 4 _ _ (0,0) h];rfl
theorem Hb.c5:w.cell? ⟨b,5,none⟩=some (.int .i64 early):=by rw[cell_of_row w b 5 _ _ (0,0) h];rfl
theorem Hb.c6:w.cell? ⟨b,6,none⟩=some (.int .i64 late):=by rw[cell_of_row w b 6 _ _ (0,0) h];rfl
theorem Hb.c7:w.cell? ⟨b,7,none⟩=some (.int .i64 md):=by rw[cell_of_row w b 7 _ _ (0,0) h];rfl
theorem Hb.c8:w.cell? ⟨b,8,none⟩=some (.string bd):=by rw[cell_of_row w b 8 _ _ (0,0) h];rfl
theorem Hb.fz (j:Nat):w.frozen? ⟨b,j,none⟩=false:=frozen_of_row w b j _ _ h
theorem Hb.set2 (x:Int):Hb (w.setCell ⟨b,2,none⟩ (.int .i64 x)) b x count first early late md bd:=by
 unfold Hb at *;simp[World.setCell,Array.getElem?_modify,h]
theorem Hb.set3 (x:Int):Hb (w.setCell ⟨b,3,none⟩ (.int .i64 x)) b raw x first early late md bd:=by
 unfold Hb at *;simp[World.setCell,Array.getElem?_modify,h]
theorem Hb.set4 (x:Int):Hb (w.setCell ⟨b,4,none⟩ (.int .i64 x)) b raw count x early late md bd:=by
 unfold Hb at *;simp[World.setCell,Array.getElem?_modify,h]
theorem Hb.set5 (x:Int):Hb (w.setCell ⟨b,5,none⟩ (.int .i64 x)) b raw count first x late md bd:=by
 unfold Hb at *;simp[World.setCell,Array.getElem?_modify,h]
theorem Hb.set6 (x:Int):Hb (w.setCell ⟨b,6,none⟩ (.int .i64 x)) b raw count first early x md bd:=by
 unfold Hb at *;simp[World.setCell,Array.getElem?_modify,h]
theorem Hb.set7 (x:Int):Hb (w.setCell ⟨b,7,none⟩ (.int .i64 x)) b raw count first early late x bd:=by
 unfold Hb at *;simp[World.setCell,Array.getElem?_modify,h]
theorem Hb.set8 (x:ByteArray):Hb (w.setCell ⟨b,8,none⟩ (.string x)) b raw count first early late md x:=by
 unfold Hb at *;simp[World.setCell,Array.getElem?_modify,h]
theorem Hb.far {p:Addr} (hp:b≠p.block) (u:Value):Hb (w.setCell p u) b raw count first early late md bd:=(Below.heap_setCell w p u b hp).trans h
theorem Hb.keep {L:List Nat} (hk:Keep w w' L) (hb:b∉L):Hb w' b raw count first early late md bd:=(hk.blk b (Array.getElem?_eq_some_iff.1 h).1 hb).trans h
theorem Hb.below {B:Nat} (hk:Below B w w') (hb:b<B):Hb w' b raw count first early late md bd:=(hk.block b hb).trans h
end
theorem Hb.new (w:World):Hb (w.alloc (.cells #[.int .i64 0,.int .i64 0,.int .i64 0,.int .i64 0,.int .i64 0,.int .i64 0,.int .i64 0,.int .i64 0,.string ⟨#[]⟩] 138)) w.heap.size 0 0 0 0 0 0 ⟨#[]⟩:=heap_alloc_new w _
structure Vp (w:World) (bV bT bH bF:Nat) (s:ByteArray) (p:Nat) (raw count first early late md:Int) (bd:ByteArray):Prop where
 vV:Var w bV 177 (.pointer (some ⟨bT,0,none⟩))
 ta:Ta w bT s p
 vF:Var w bF 122 (.func (.func 114) #[.pointer (some ⟨bT,0,none⟩)] #[])
 hb:Hb w bH raw count first early late md bd
 ne:bV≠bT/\bV≠bH/\bV≠bF/\bT≠bH/\bT≠bF/\bH≠bF
section
variable {w w':World} {bV bT bH bF p:Nat} {s:ByteArray} {raw count first early late md:Int} {bd:ByteArray} (h:Vp w bV bT bH bF s p raw count first early late md bd)
include h
theorem Vp.drew:Vp w.drew bV bT bH bF s p raw count first early late md bd:=⟨h.vV,h.ta,h.vF,h.hb,h.ne⟩
theorem Vp.keep (hk:Keep w w' []):Vp w' bV bT bH bF s p raw count first early late md bd :=
 ⟨hk.var h.vV (by simp),hk.ta h.ta (by simp),hk.var h.vF (by simp),h.hb.keep hk (by simp),h.ne⟩
theorem Vp.set_p (q:Nat):Vp (w.setCell ⟨bT,1,none⟩ (.int .i64 (q:Int))) bV bT bH bF s q raw count first early late md bd:=by
 obtain⟨n1,n2,n3,n4,n5,n6⟩:=h.ne
 exact⟨h.vV.far (p:=⟨bT,1,none⟩) n1 _,h.ta.set1 q,h.vF.far (p:=⟨bT,1,none⟩) (Ne.symm n5) _,h.hb.far (p:=⟨bT,1,none⟩) (Ne.symm n4) _,h.ne⟩
theorem Vp.put {raw' count' first' early' late' md':Int} {bd':ByteArray} (hk:Keep w w' [bH]) (hH:Hb w' bH raw' count' first' early' late' md' bd'):Vp w' bV bT bH bF s p raw' count' first' early' late' md' bd':=by
 obtain⟨n1,n2,n3,n4,n5,n6⟩:=h.ne
 exact⟨hk.var h.vV (by simpa using n2),hk.ta h.ta (by simpa using n4),hk.var h.vF (by simpa using Ne.symm n6),hH,h.ne⟩
theorem Vp.went {q:Nat} (hk:Keep w w' [bT]) (hT:Ta w' bT s q):Vp w' bV bT bH bF s q raw count first early late md bd:=by
 obtain⟨n1,n2,n3,n4,n5,n6⟩:=h.ne
 exact⟨hk.var h.vV (by simpa using n1),hT,hk.var h.vF (by simpa using Ne.symm n5),h.hb.keep hk (by simpa using Ne.symm n4),h.ne⟩
end
def perr:List UInt8->Int
 | []=>4
 |_::b=>(fin 5 [] b).1
def PkA (s:ByteArray) (bT bH:Nat) (w:World) (e:Ending) (w':World):Prop:=Keep w w' [bT,bH] /\
 ((∃(m:UInt8) (b':List UInt8) (n1 n2 n3 n4 n5:Nat) (r:ByteArray),s.data.toList=m::b'/\fin 5 [] b'=(0,[n1,n2,n3,n4,n5],r.data.toList)/\e=.returned (.tuple #[])/\Hb w' bH n1 n2 n3 n4 (lateOf n4 n5) m.toNat r) ∨
  (perr s.data.toList≠0/\ ∃q,e=.panicked [fault (perr s.data.toList) q]))
theorem num_any (w:World) (b p:Nat) (s:ByteArray) (h:Ta w b s p) (hs:s.size<=1000000) (hp:p<=s.size) :
  Calls Tryz.prog 114 #[.pointer (some ⟨b,0,none⟩)] w fun e w' =>
   (∃n k,gv 0 0 (s.data.toList.drop p)=(n,k,0)/\p+k<=s.size/\n<9223372036854775808/\e=.returned (.int .i64 (n:Int))/\w'=w.setCell ⟨b,1,none⟩ (.int .i64 ((p+k:Nat):Int))) ∨
   ((gv 0 0 (s.data.toList.drop p)).2.2≠0/\e=.panicked [fault (gv 0 0 (s.data.toList.drop p)).2.2 p]/\w=w'):=by
 by_cases hg:(gv 0 0 (s.data.toList.drop p)).2.2=0
 ·obtain⟨n,k,hgv⟩:∃n k,gv 0 0 (s.data.toList.drop p)=(n,k,0):=⟨_,_,by rw[<-hg]⟩
  obtain⟨hn,hk⟩:=gv_in s p n k hp hgv
  refine(num_ok w b p n k s h hs hp hgv).mono ?_
  rintro e w' ⟨he,hw⟩
  exact .inl ⟨n,k,hgv,hk,hn,he,hw⟩
 ·refine(num_no w b p s h hs hp hg).mono ?_
  rintro e w' ⟨he,hw⟩
  exact .inr ⟨hg,he,hw⟩
theorem fin_go {b:List UInt8} {k n u:Nat} {acc:List Nat} (h:gv 0 0 b=(n,u,0)):fin (k+1) acc b=fin k (acc++[n]) (b.drop u):=by
 rw[fin,if_neg (by simp[h]),h]
theorem fin_stop {b:List UInt8} {k:Nat} {acc:List Nat} (h:(gv 0 0 b).2.2≠0):(fin (k+1) acc b).1=(gv 0 0 b).2.2:=by
 rw[fin,if_pos h]
end Bk
end Go.Proofs.YtlnbjikooadmoaaGreat
