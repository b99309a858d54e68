/- lens.Used, lens.Check. Slices of pairs of numbers (structs of two cells) that the call itself makes. canon.Code: find. -/
import Derived.Test.YtjligbmickfbdaaGreatBe03
import Derived.Test.YtjligbmickfbdaaGreatBe14
import Derived.Deep.LoopGhost
import Derived.BigRegion
namespace Go.Proofs.YtjligbmickfbdaaGreat
namespace Cn
open Go.RowKit
theorem us_take (l:List Int) (k:Nat) (h:k<l.length):us (l.take (k+1))=us (l.take k)+if 0<l[k] then 1 else 0:=by
 unfold us;rw[List.take_add_one,List.getElem?_eq_getElem h,List.countP_append];simp only[Option.toList_some,List.countP_singleton,decide_eq_true_eq]
set_option maxHeartbeats 1600000 in
set_option maxRecDepth 100000 in
theorem used_any (A:Option Addr) (n c:Nat) (l:List Int) (w:World) (hn:n<=1000000) (hrd:Rd w w.heap.size 1 A n (l.map (Value.int .i64))) :
  Calls Tryz.prog 128 #[.slice A n c] w fun e w'=>e=.returned (.int .i64 (us l:Int))/\w=w':=by
 have hln:l.length=n:=by simpa using hrd.len
 have HL:=Lib.hid hln;clear hln
 go_enter Tryz.func128, Tryz.ntmps128
 go_wp2_with fail
 go_loopg [3,8] n (fun kx s3 s8 wr=>∃(k:Nat),s8=.int .i64 (k:Int)/\s3=.int .i64 (us (l.take k):Int)/\k<=n/\n-k<=kx/\w=wr)
 case atStart=>exact⟨0,rfl,rfl,by omega,by omega,rfl⟩
 case round =>
  obtain⟨k,rfl,rfl,hk,hkx,rfl⟩:=hrel;have hub:us (l.take k)<=1000000:=by
   unfold us;exact Nat.le_trans (List.countP_le_length) (by simp;omega)
  by_cases hlt:k<n
  ·obtain⟨ad,x,rfl,had,hx,hcell⟩:=hrd.int1 hlt
   have hkl:k<l.length:=by have:=HL.out;omega
   rw[List.getElem?_eq_getElem hkl,Option.some.injEq] at hx;have hst:=us_take l k hkl;rw[hx] at hst;have HST:=Lib.hid hst;clear hst hx hkl;by_cases h0:0<x
   ·go_wp2_with fail
    go_roundg (n-(k+1))
    case measure=>omega
    case rel=>exact⟨k+1,by go_num,by rw[HST.out,if_pos h0];go_num,by omega,by omega,by first|rfl|trivial⟩
   ·go_wp2_with fail
    go_roundg (n-(k+1))
    case measure=>omega
    case rel=>exact⟨k+1,by go_num,by rw[HST.out,if_neg (by omega)];rfl,by omega,by omega,by first|rfl|trivial⟩
  ·have e:us (l.take k)=us l:=by rw[List.take_of_length_le (by have:=HL.out;omega)]
   have HE:=Lib.hid e;clear e;go_wp2_with fail
   go_ret
   refine⟨?_,rfl⟩;rw[<-HE.out];rfl
def sk (l:List Int) (k:Nat):Nat:=((l.take k).map kr).sum
theorem kr_take (l:List Int) (k:Nat) (h:k<l.length):sk l (k+1)=sk l k+kr l[k]:=by
 unfold sk;rw[List.take_add_one,List.getElem?_eq_getElem h,List.map_append,List.sum_append_nat];simp
theorem kr_le (x:Int):kr x<=16384:=by
 unfold kr;split
 ·rename_i h
  exact Nat.le_trans (Nat.pow_le_pow_right (by omega) (show 15-x.toNat<=14 by omega)) (by decide)
 ·omega
theorem kr_sum_le:∀(l:List Int),(l.map kr).sum<=16384*l.length
 | []=>by simp
 |x::r=>by
  have:=kr_sum_le r;have:=kr_le x;simp only[List.map_cons,List.sum_cons,List.length_cons];omega
theorem any_take (l:List Int) (k:Nat) (h:k<l.length) (ha:(l.take k).any bad=false) (hb:bad l[k]=false):(l.take (k+1)).any bad=false:=by
 rw[List.take_add_one,List.getElem?_eq_getElem h,List.any_append,ha];simp[hb]
theorem addw (a b:Nat) (h:a+b<4611686018427387904):wrap64 ((a:Int)+(b:Int))=((a+b:Nat):Int):=by unfold wrap64;omega
theorem pow15 (x:Int) (h0:0<x) (h1:x<=15):wrap64 (2^(15-x).toNat)=(kr x:Int):=by
 have:x=1∨x=2∨x=3∨x=4∨x=5∨x=6∨x=7∨x=8∨x=9∨x=10∨x=11∨x=12∨x=13∨x=14∨x=15:=by omega
 rcases this with rfl|rfl|rfl|rfl|rfl|rfl|rfl|rfl|rfl|rfl|rfl|rfl|rfl|rfl|rfl<;>first|rfl|simp[wrap64,kr]
set_option maxHeartbeats 3200000 in
set_option maxRecDepth 100000 in
theorem check_any (A:Option Addr) (n c:Nat) (l:List Int) (w:World) (hn:n<=1000000) (hrd:Rd w w.heap.size 1 A n (l.map (Value.int .i64))) :
  Calls Tryz.prog 86 #[.slice A n c] w fun e w'=>e=.returned (.int .i64 (checkE l))/\w=w':=by
 have hln:l.length=n:=by simpa using hrd.len
 have hu:=used_any A n c l w hn hrd;have HU:=Lib.hid hu;have HL:=Lib.hid hln;by_cases hb:257<n
 ·have he:checkE l=3:=by unfold checkE;rw[if_pos (by omega)]
  rw[he];clear he hln hu
  go_enter Tryz.func86, Tryz.ntmps86
  go_wp2
  go_ret
  exact⟨rfl,rfl⟩
 have he:checkE l=if l.any bad=true then 80 else if sumOk l=true then 0 else 80:=by unfold checkE;rw[if_neg (by omega)]
 have HE:=Lib.hid he;generalize checkE l=R at HE ⊢;clear he hln hu
 go_enter Tryz.func86, Tryz.ntmps86
 go_wp2_with fail
 go_loopg [3,12] n (fun kx s3 s12 wr=>∃(k:Nat),s12=.int .i64 (k:Int)/\s3=.int .i64 (sk l k:Int)/\k<=n/\n-k<=kx/\Hid ((l.take k).any bad=false)/\w=wr)
 case atStart=>exact⟨0,rfl,rfl,by omega,by omega,rfl,rfl⟩
 case round =>
  obtain⟨k,rfl,rfl,hk,hkx,hany,rfl⟩:=hrel;have hsb:sk l k<=4210688:=by
   have h1:=kr_sum_le (l.take k);have h2:(l.take k).length<=257:=by rw[List.length_take];omega
   unfold sk;omega
  by_cases hlt:k<n
  ·obtain⟨ad,x,rfl,had,hx,hcell⟩:=hrd.int1 hlt
   have hkl:k<l.length:=by have:=HL.out;omega
   rw[List.getElem?_eq_getElem hkl,Option.some.injEq] at hx;have hst:=kr_take l k hkl;have hat:=fun h=>any_take l k hkl hany.out h
   have hbd:bad l[k]=true->l.any bad=true:=fun h=>List.any_eq_true.2 ⟨_,List.getElem_mem hkl,h⟩
   rw[hx] at hst hat hbd;have HST:=Lib.hid hst;have HAT:=Lib.hid hat;have HBD:=Lib.hid hbd;clear hst hx hkl hat hbd;by_cases h1:x<0
   ·have hl:l.any bad=true:=HBD.out (by simp[bad,h1])
    have HLA:=Lib.hid hl;clear hl;go_wp2_with fail
    go_ret
    rw[HE.out,if_pos HLA.out];exact⟨rfl,rfl⟩
   by_cases h2:15<x
   ·have hl:l.any bad=true:=HBD.out (by simp[bad,h2])
    have HLA:=Lib.hid hl;clear hl;go_wp2_with fail
    go_ret
    rw[HE.out,if_pos HLA.out];exact⟨rfl,rfl⟩
   have hnb:bad x=false:=by simp[bad];omega
   have HNB:=Lib.hid hnb;clear hnb;by_cases h0:0<x
   ·have hp:=pow15 x h0 (by omega)
    have HP:=Lib.hid hp;have hkb:=kr_le x;clear hp;go_wp2_with fail
    go_roundg (n-(k+1))
    case measure=>omega
    case rel=>exact⟨k+1,by go_num,by rw[HP.out,addw _ _ (by omega),HST.out],by omega,by omega,HAT.out HNB.out,by first|rfl|trivial⟩
   ·go_wp2_with fail
    go_roundg (n-(k+1))
    case measure=>omega
    case rel=>exact⟨k+1,by go_num,by rw[HST.out,show kr x=0 from if_neg (by omega)];rfl,by omega,by omega,HAT.out HNB.out,by first|rfl|trivial⟩
  ·have hek:k=l.length:=by have:=HL.out;omega
   have hny:l.any bad=false:=by have:=hany.out;rwa [hek,List.take_length] at this
   have hsk:sk l k=(l.map kr).sum:=by unfold sk;rw[hek,List.take_length]
   have hso:sumOk l=(decide (sk l k=0)||decide (sk l k=32768)||(decide (us l=1)&&decide (sk l k=16384))):=by unfold sumOk half;rw[hsk]
   have hub:us l<=257:=by
    unfold us;exact Nat.le_trans (List.countP_le_length) (by omega)
   rw[if_neg (by rw[hny];simp),hso] at HE;generalize sk l k=q at *
   generalize us l=u at *
   clear hek hny hsk hso;have HUU:=HU.out;by_cases u1:u=1
   ·subst u1
    by_cases q0:q=0
    ·subst q0
     go_wp2_with fail
     refine HU.out.mono ?_;rintro e2 w2 ⟨rfl,rfl⟩;go_wp2
     go_ret
     rw[HE.out];exact⟨rfl,rfl⟩
    by_cases q1:q=32768
    ·subst q1
     go_wp2_with fail
     refine HU.out.mono ?_;rintro e2 w2 ⟨rfl,rfl⟩;go_wp2
     go_ret
     rw[HE.out];exact⟨rfl,rfl⟩
    by_cases q2:q=16384
    ·subst q2
     go_wp2_with fail
     refine HU.out.mono ?_;rintro e2 w2 ⟨rfl,rfl⟩;go_wp2
     go_ret
     rw[HE.out];exact⟨rfl,rfl⟩
    have c0:((q:Int)==0)=false:=by rw[beq_eq_false_iff_ne];omega
    have d0:((q:Int) != 0)=true:=by rw[bne_iff_ne];omega
    have d1:((q:Int) != 32768)=true:=by rw[bne_iff_ne];omega
    have c1:((q:Int)==32768)=false:=by rw[beq_eq_false_iff_ne];omega
    have c2:((q:Int)==16384)=false:=by rw[beq_eq_false_iff_ne];omega
    have hd:(decide (q=0)||decide (q=32768)||(decide ((1:Nat)=1)&&decide (q=16384)))=false:=by simp[q0,q1,q2]
    rw[hd] at HE;clear hd;go_wp2_with fail
    refine HU.out.mono ?_;rintro e2 w2 ⟨rfl,rfl⟩;go_wp2
    go_ret
    rw[HE.out];exact⟨rfl,rfl⟩
   ·have cu:((u:Int)==1)=false:=by rw[beq_eq_false_iff_ne];omega
    have hdu:decide (u=1)=false:=decide_eq_false u1;rw[hdu,Bool.false_and,Bool.or_false] at HE;clear hdu;by_cases q0:q=0
    ·subst q0
     go_wp2_with fail
     refine HU.out.mono ?_;rintro e2 w2 ⟨rfl,rfl⟩;go_wp2
     go_ret
     rw[HE.out];exact⟨rfl,rfl⟩
    by_cases q1:q=32768
    ·subst q1
     go_wp2_with fail
     refine HU.out.mono ?_;rintro e2 w2 ⟨rfl,rfl⟩;go_wp2
     go_ret
     rw[HE.out];exact⟨rfl,rfl⟩
    have c0:((q:Int)==0)=false:=by rw[beq_eq_false_iff_ne];omega
    have d0:((q:Int) != 0)=true:=by rw[bne_iff_ne];omega
    have d1:((q:Int) != 32768)=true:=by rw[bne_iff_ne];omega
    have c1:((q:Int)==32768)=false:=by rw[beq_eq_false_iff_ne];omega
    have hd:(decide (q=0)||decide (q=32768))=false:=by simp[q0,q1]
    rw[hd] at HE;clear hd;go_wp2_with fail
    refine HU.out.mono ?_;rintro e2 w2 ⟨rfl,rfl⟩;go_wp2
    go_ret
    rw[HE.out];exact⟨rfl,rfl⟩
end Cn
end Go.Proofs.YtjligbmickfbdaaGreat
namespace Go.Proofs.YtjligbmickfbdaaGreat
open Go.RowKit
def cl2 (x:Int×Int):List Value:=[.int .i64 x.1,.int .i64 x.2]
def fl2 (l:List (Int×Int)):List Value:=l.flatMap cl2
theorem length_fl2 (l:List (Int×Int)):(fl2 l).length=l.length*2:=by
 induction l with
 |nil=>rfl
 |cons x l ih =>
  have e:fl2 (x::l)=.int .i64 x.1:: .int .i64 x.2::fl2 l:=rfl;rw[e,List.length_cons,List.length_cons,List.length_cons,ih];omega
theorem fl2_append (a b:List (Int×Int)):fl2 (a++b)=fl2 a++fl2 b:=List.flatMap_append ..
theorem fl2_at (l:List (Int×Int)) (k:Nat) (x:Int×Int) (h:l[k]? =some x):(fl2 l)[2*k]? =some (.int .i64 x.1)/\(fl2 l)[2*k+1]? =some (.int .i64 x.2):=by
 induction l generalizing k with
 |nil=>simp at h
 |cons y l ih =>
  have e:fl2 (y::l)=.int .i64 y.1:: .int .i64 y.2::fl2 l:=rfl;rw[e];rcases k with _|k
  ·simp at h;subst h;exact⟨rfl,rfl⟩
  ·have:=ih k (by simpa using h)
   rw[show 2*(k+1)=2*k+1+1 by omega];simpa using this
def Own2 (w:World) (B:Nat) (t:TypeId) (v:Value) (l:List (Int×Int)):Prop:=w.ownsRow B t 2 v l.length (fl2 l)
structure Pair2 (t ts:TypeId):Prop where
 sl:Tryz.prog.underlying ts=some (.slice t)
 info:(Tryz.prog.info? t).map (fun i=>(i.zero,i.size,i.bytes))=some (some (.agg #[.int .i64 0,.int .i64 0]),2,16)
section
variable {ops:Array Oper} {rest:List Oper} {o:Oper} {a:Act} {Q:Exit->Act->World->Prop} {t ts:TypeId}
theorem append2 {s x:Operand} {B:Nat} {v:Value} {l:List (Int×Int)} {w0:World} {y z:Int} (hp:Pair2 t ts) (hown:Own2 w0 B t v l) (hl:l.length<=1099511627776) (hB:B<=w0.heap.size)
  (h:∀A' n' c' w',Hid (n'=l.length+1)->Own2 w' B t (.slice A' n' c') (l++[(y,z)])->Below B w0 w'->w0.grownBy w' v.ownBlock->wpList Tryz.prog ops Q rest (a.put o.dst (.slice A' n' c')) w')
  (hgd:o.guard=none:=by exact rfl) (ho:o.op=.call { callee:=.builtin .append,args:=#[s,x],argTypes:=#[ts,ts] }:=by exact rfl)
  (hs:a.eval s=v:=by exact rfl) (hx:a.eval x=.slice (some ⟨w0.heap.size,0,none⟩) 1 1:=by exact rfl) :
  wpList Tryz.prog ops Q (o::rest) a (w0.alloc (.cells #[.int .i64 y,.int .i64 z] t)):=by
 obtain⟨i0,hi,hz0,hz1,hz2⟩:=info_parts hp.info;refine wpList_append_own_at _ hgd s x ts ho B t i0 (.agg #[.int .i64 0,.int .i64 0]) 2 16 hp.sl hi hz0 hz1 hz2 rfl (by omega) v l.length (fl2 l) hs (hown.alloc _)
  ⟨w0.heap.size,0,none⟩ 1 1 [.int .i64 y,.int .i64 z] hx rfl ?_ (by intro u hu;simp at hu;rcases hu with rfl|rfl<;>rfl) (by simp only[maxLen];omega) (by omega) (by simp;omega) ?_
 ·intro j u hu
  rw[Addr.add_lit,Nat.zero_add,World.cell?_alloc_new];simpa using hu
 intro v' w' hown' hg _ hat;have hg0:w0.grownBy w' v.ownBlock:=(World.grownBy_alloc w0 _ v.ownBlock).trans hg;have hlt:=World.ownsRow.lt hown;obtain⟨A',c',rfl,_,_⟩:=own_slice hown';refine h A' _ c' w' rfl ?_ ((Below.refl _ _).grown hg0 hB (fun k hk=>(hlt k hk).1)) hg0;unfold Own2;rw[List.length_append,fl2_append];exact hown'
end
end Go.Proofs.YtjligbmickfbdaaGreat
namespace Go.Proofs.YtjligbmickfbdaaGreat
namespace Cn
open Go.RowKit
def wds (l:List Int):List (Int×Int):=(List.range l.length).map fun s=>if 0<l.getD s 0 then((wd l s:Int),l.getD s 0) else(0,0)
structure Cd (w:World) (b:Nat) (l:List Int):Prop where
 words:∃g c,w.cell? ⟨b,0,none⟩=some (.slice (some ⟨g,0,none⟩) l.length c)/\Rd w w.heap.size 2 (some ⟨g,0,none⟩) l.length (fl2 (wds l))
 sorted:∃A c,w.cell? ⟨b,1,none⟩=some (.slice A (us l) c)/\Rd w w.heap.size 1 A (us l) ((so l (us l) l.length).map (Value.int .i64))
 cnt:∀k,k<=15->w.cell? ⟨b,2+k,none⟩=some (.int .i64 (cn l k:Int))
 fst:∀k,k<=15->w.cell? ⟨b,18+k,none⟩=some (.int .i64 (fs l k:Int))
 plc:∀k,k<=15->w.cell? ⟨b,34+k,none⟩=some (.int .i64 (pl l k:Int))
 made:w.cell? ⟨b,50,none⟩=some (.bool true)
 lt:b<w.heap.size
theorem Cd.ext {w w':World} {b:Nat} {l:List Int} (h:Cd w b l) (hb:Below w.heap.size w w'):Cd w' b l:=by
 have hc:∀o,w'.cell? ⟨b,o,none⟩=w.cell? ⟨b,o,none⟩:=fun o=>hb.cell (p:=⟨b,o,none⟩) h.lt
 obtain⟨A,c,h1,h2⟩:=h.words;obtain⟨A',c',h3,h4⟩:=h.sorted;exact⟨⟨A,c,(hc 0).trans h1,h2.ext hb⟩,⟨A',c',(hc 1).trans h3,h4.ext hb⟩,fun k hk=>(hc _).trans (h.cnt k hk),fun k hk=>(hc _).trans (h.fst k hk),fun k hk=>(hc _).trans (h.plc k hk),(hc 50).trans h.made,Nat.lt_of_lt_of_le h.lt hb.size⟩
def fndV (o:Option Int):Value:=match o with|some s=>.tuple #[.int .i64 s,.bool true]|none=>.tuple #[.int .i64 0,.bool false]
set_option maxHeartbeats 3200000 in
set_option maxRecDepth 100000 in
theorem find_any (w:World) (b n wd:Nat) (l:List Int) (h:Cd w b l) (hok:∀x∈l,0<=x/\x<=15) (hl:l.length<=1000) (hn:n<=1000000) (hwd:wd<=15) (hfs:fs l wd<=1000000) :
  Calls Tryz.prog 114 #[.pointer (some ⟨b,0,none⟩),.int .i64 (n:Int),.int .i64 (wd:Int)] w fun e w'=>e=.returned (fndV (fnd l n wd))/\ ∃m,w'=w.drewN m:=by
 have mixed:Tryz.prog.follows .mixedOrders=true:=by kernel_rfl
 have hf:=h.fst wd hwd;have hc:=h.cnt wd hwd;have hp:=h.plc wd hwd;obtain⟨A,c,hs,hr⟩:=h.sorted;have hpl:=(pl_le l hok wd).1;rw[pl_step] at hpl;have hus:us l<=1000:=by unfold us;exact Nat.le_trans (List.countP_le_length) hl
 have hd:fnd l n wd=if n<fs l wd∨fs l wd+cn l wd<=n then none else(so l (us l) l.length)[pl l wd+(n-fs l wd)]? :=rfl
 have HD:=Lib.hid hd;generalize fnd l n wd=F at HD ⊢;generalize fs l wd=f at *
 generalize cn l wd=k at *
 generalize pl l wd=q at *
 clear h hd hok;by_cases h1:n<f
 ·have hF:=HD.out
  rw[if_pos (.inl h1)] at hF;subst hF
  go_enter Tryz.func114, Tryz.ntmps114
  go_wp2_with fail
  go_ret2
  exact⟨rfl,0,rfl⟩
 by_cases h2:f+k<=n
 ·have hF:=HD.out
  rw[if_pos (.inr h2)] at hF;subst hF
  go_enter Tryz.func114, Tryz.ntmps114
  go_wp2_with fail
  go_ret2
  exact⟨rfl,0,rfl⟩
 ·have hF:=HD.out
  rw[if_neg (by omega)] at hF;obtain⟨ad,x,rfl,had,hx,hcell⟩:=hr.int1 (k:=q+(n-f)) (by omega);rw[hx] at hF;subst hF;obtain⟨i,hi⟩:∃i,n=f+i:=⟨n-f,by omega⟩
  subst hi;rw[Nat.add_sub_cancel_left] at hcell hx;have hq1:q+i<us l:=by omega
  clear hx hr
  go_enter Tryz.func114, Tryz.ntmps114
  go_wp2_with fail
  go_quiet (fail)
  go_wp2
  go_ret2
  exact⟨rfl,_,rfl⟩
end Cn
end Go.Proofs.YtjligbmickfbdaaGreat
