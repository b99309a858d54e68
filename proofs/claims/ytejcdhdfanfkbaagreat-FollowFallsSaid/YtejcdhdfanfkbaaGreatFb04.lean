/- Slices of pairs of numbers (structs of two cells) that the call itself makes. strings.Builder: copyCheck, WriteString. A number comes back of its bytes, whatever stands behind them. record: what its functions compute: plain lists, no program. varint.add, Put, Get. -/
import Derived.Test.YtejcdhdfanfkbaaGreatFb03
import Derived.Test.YtejcdhdfanfkbaaGreatFb01
import Derived.Test.YtejcdhdfanfkbaaGreatRows
import Derived.Deep.LoopGhost
namespace Go.Proofs.YtejcdhdfanfkbaaGreat
open Go.RowKit
def cl2 (x:Int×Int):List Value:=[.int .i64 x.1,.int .i64 x.2]
def fl2 (l:List (Int×Int)):List Value:=l.flatMap cl2
theorem length_fl2 (l:List (Int×Int)):(fl2 l).length=l.length*2:=by
 induction l with
 |nil=>rfl
 |cons x l ih =>
  have e:fl2 (x::l)=.int .i64 x.1:: .int .i64 x.2::fl2 l:=rfl;rw[e,List.length_cons,List.length_cons,List.length_cons,ih];omega
theorem fl2_append (a b:List (Int×Int)):fl2 (a++b)=fl2 a++fl2 b:=List.flatMap_append ..
theorem fl2_at (l:List (Int×Int)) (k:Nat) (x:Int×Int) (h:l[k]? =some x):(fl2 l)[2*k]? =some (.int .i64 x.1)/\(fl2 l)[2*k+1]? =some (.int .i64 x.2):=by
 induction l generalizing k with
 |nil=>simp at h
 |cons y l ih =>
  have e:fl2 (y::l)=.int .i64 y.1:: .int .i64 y.2::fl2 l:=rfl;rw[e];rcases k with _|k
  ·simp at h;subst h;exact⟨rfl,rfl⟩
  ·have:=ih k (by simpa using h)
   rw[show 2*(k+1)=2*k+1+1 by omega];simpa using this
def Own2 (w:World) (B:Nat) (t:TypeId) (v:Value) (l:List (Int×Int)):Prop:=w.ownsRow B t 2 v l.length (fl2 l)
structure Pair2 (t ts:TypeId):Prop where
 sl:Tryz.prog.underlying ts=some (.slice t)
 info:(Tryz.prog.info? t).map (fun i=>(i.zero,i.size,i.bytes))=some (some (.agg #[.int .i64 0,.int .i64 0]),2,16)
section
variable {ops:Array Oper} {rest:List Oper} {o:Oper} {a:Act} {Q:Exit->Act->World->Prop} {t ts:TypeId}
theorem append2 {s x:Operand} {B:Nat} {v:Value} {l:List (Int×Int)} {w0:World} {y z:Int} (hp:Pair2 t ts) (hown:Own2 w0 B t v l) (hl:l.length<=1099511627776) (hB:B<=w0.heap.size)
  (h:∀A' n' c' w',Hid (n'=l.length+1)->Own2 w' B t (.slice A' n' c') (l++[(y,z)])->Below B w0 w'->w0.grownBy w' v.ownBlock->wpList Tryz.prog ops Q rest (a.put o.dst (.slice A' n' c')) w')
  (hgd:o.guard=none:=by exact rfl) (ho:o.op=.call { callee:=.builtin .append,args:=#[s,x],argTypes:=#[ts,ts] }:=by exact rfl)
  (hs:a.eval s=v:=by exact rfl) (hx:a.eval x=.slice (some ⟨w0.heap.size,0,none⟩) 1 1:=by exact rfl) :
  wpList Tryz.prog ops Q (o::rest) a (w0.alloc (.cells #[.int .i64 y,.int .i64 z] t)):=by
 obtain⟨i0,hi,hz0,hz1,hz2⟩:=info_parts hp.info;refine wpList_append_own_at _ hgd s x ts ho B t i0 (.agg #[.int .i64 0,.int .i64 0]) 2 16 hp.sl hi hz0 hz1 hz2 rfl (by omega) v l.length (fl2 l) hs (hown.alloc _)
  ⟨w0.heap.size,0,none⟩ 1 1 [.int .i64 y,.int .i64 z] hx rfl ?_ (by intro u hu;simp at hu;rcases hu with rfl|rfl<;>rfl) (by simp only[maxLen];omega) (by omega) (by simp;omega) ?_
 ·intro j u hu
  rw[Addr.add_lit,Nat.zero_add,World.cell?_alloc_new];simpa using hu
 intro v' w' hown' hg _ hat;have hg0:w0.grownBy w' v.ownBlock:=(World.grownBy_alloc w0 _ v.ownBlock).trans hg;have hlt:=World.ownsRow.lt hown;obtain⟨A',c',rfl,_,_⟩:=own_slice hown';refine h A' _ c' w' rfl ?_ ((Below.refl _ _).grown hg0 hB (fun k hk=>(hlt k hk).1)) hg0;unfold Own2;rw[List.length_append,fl2_append];exact hown'
end
end Go.Proofs.YtejcdhdfanfkbaaGreat
namespace Go.Proofs.YtejcdhdfanfkbaaGreat
namespace Bd
open Go.RowKit
def Bb (w:World) (B b:Nat) (l:List UInt8):Prop:=Lib.IsBuilder 88 5 B b (bv l) w
theorem bb_size:(Tryz.prog.info? 88).map (·.size)=some 2:=by kernel_rfl
theorem bb_lies:liesAt Tryz.prog Tryz.prog.depth 88 (2/Tryz.prog.cellsOf 88) 0 88 1=true:=by kernel_rfl
theorem bb_ne:88≠5:=by decide
theorem bb_u:Tryz.prog.underlying 85=some (.pointer 88):=by kernel_rfl
theorem bb_p:Tryz.prog.underlying 252=some .unsafePointer:=by kernel_rfl
set_option maxHeartbeats 1600000 in
set_option maxRecDepth 100000 in
theorem copyCheck_used (b:Nat) (w:World) (h0:w.cell? ⟨b,0,none⟩=some (.pointer (some ⟨b,0,none⟩))) :
  Calls Tryz.prog 86 #[.pointer (some ⟨b,0,none⟩)] w fun e w'=>e=.returned (.tuple #[])/\w'=w:=by
 obtain⟨j,hj,_⟩:=Option.map_eq_some_iff.1 bb_size
 go_enter Tryz.func86, Tryz.ntmps86
 go_wp2
 rw[Lib.run_neq_ptr_same w _ bb_u hj];go_wp2
 go_end0
 exact⟨rfl,rfl⟩
set_option maxHeartbeats 1600000 in
set_option maxRecDepth 100000 in
theorem copyCheck_fresh (b:Nat) (w:World) (h0:w.cell? ⟨b,0,none⟩=some (.pointer none)) (hsh:w.shape? b=some (88,2)) (hfz:w.frozen? ⟨b,0,none⟩=false) :
  Calls Tryz.prog 86 #[.pointer (some ⟨b,0,none⟩)] w fun e w'=>e=.returned (.tuple #[])/\w'=w.setCell ⟨b,0,none⟩ (.pointer (some ⟨b,0,none⟩)):=by
 obtain⟨j,hj,hjs⟩:=Option.map_eq_some_iff.1 bb_size
 go_enter Tryz.func86, Tryz.ntmps86
 go_wp2
 rw[Lib.run_to_unsafe w ⟨b,0,none⟩ bb_u bb_p hj (by rw[hjs];decide) hsh (Nat.zero_lt_succ 1)];simp only[Result.andThen];rw[Oper.upon_value];go_wp2
 rw[run_callFunc_extern Tryz.func150 (by kernel_rfl) (by kernel_rfl) (by kernel_rfl) (e:=Extern.AbiNoEscape.same) (by kernel_rfl)];rw[Lib.run_noEscape];simp only[Result.andThen];rw[Oper.upon_value];go_wp2
 rw[Lib.run_from_unsafe w ⟨b,0,none⟩ bb_p bb_u hj hsh bb_lies];simp only[Result.andThen];rw[Oper.upon_value];go_wp2
 go_end0
 exact⟨rfl,rfl⟩
theorem copyCheck_any (B b:Nat) (l:List UInt8) (w:World) (h:Bb w B b l) :
  Calls Tryz.prog 86 #[.pointer (some ⟨b,0,none⟩)] w fun e w'=>e=.returned (.tuple #[])/\(Lib.BuilderAt 88 5 B b (.pointer (some ⟨b,0,none⟩)) (bv l) w'/\Below B w w'):=by
 rcases h with h|h
 ·refine(copyCheck_fresh b w h.cell0 h.shape h.frozen0).mono ?_
  rintro e w' ⟨rfl,rfl⟩;exact⟨rfl,h.used _,(Below.refl B w).setCell (p:=⟨b,0,none⟩) h.1 _⟩
 ·refine(copyCheck_used b w h.cell0).mono ?_
  rintro e w' ⟨rfl,rfl⟩;exact⟨rfl,h,Below.refl B _⟩
theorem strCells_eq (s:ByteArray):Lib.strCells s=bv s.data.toList:=rfl
set_option maxHeartbeats 3200000 in
set_option maxRecDepth 100000 in
theorem write_any (B b:Nat) (l:List UInt8) (s:ByteArray) (w:World) (h:Bb w B b l) (hl:l.length+s.size<=1099511627776) (hBw:B<=w.heap.size) :
  Calls Tryz.prog 32 #[.pointer (some ⟨b,0,none⟩),.string s] w fun e w'=>e=.returned (.tuple #[.int .i64 s.size,.nilIface])/\Bb w' B b (l++s.data.toList)/\Below B w w':=by
 obtain⟨i0,hi,hz0,hz1,hz2⟩:=info_parts byte_info;have hbl:(bv l).length=l.length:=bv_length l;have HC:=Lib.hid (copyCheck_any B b l w h);clear h
 go_enter Tryz.func32, Tryz.ntmps32
 go_wp2_with fail
 refine HC.out.mono ?_;rintro e w1 ⟨rfl,h1,hb1⟩;obtain⟨hB,v,hbk,hown,hne⟩:=h1;have c0:w1.cell? ⟨b,0,none⟩=some (.pointer (some ⟨b,0,none⟩)):=by rw[Lib.cell_of_heap hbk];rfl
 have c1:w1.cell? ⟨b,1,none⟩=some v:=by rw[Lib.cell_of_heap hbk];rfl
 clear HC;go_wp2_with (at_builtin;refine Lib.wpList_append_own_string _ rfl _ _ 86 9 rfl B 5 i0 (by kernel_rfl) (by kernel_rfl) hi hz0 hz1 hz2 _ _ _ rfl hown s rfl ?c3 ?c4 ?c5 ?_)
 case c3=>unfold maxLen;omega
 case c4=>omega
 case c5=>have:=hb1.size;omega
 intro v' w2 hown' hgrow _;have hlt:b<w1.heap.size:=by
  rcases Nat.lt_or_ge b w1.heap.size with h'|h'
  ·exact h'
  ·simp[Array.getElem?_eq_none h'] at hbk
 have hb2:w2.heap[b]? =some (.cells #[.pointer (some ⟨b,0,none⟩),v] 88 (0,0)):=by
  rw[hgrow.block b hlt (fun e=>hne e.symm)];exact hbk
 have d0:w2.cell? ⟨b,0,none⟩=some (.pointer (some ⟨b,0,none⟩)):=by rw[Lib.cell_of_heap hb2];rfl
 have d1:w2.cell? ⟨b,1,none⟩=some v:=by rw[Lib.cell_of_heap hb2];rfl
 have f1:w2.frozen? ⟨b,1,none⟩=false:=Lib.frozen_of_heap hb2 1;obtain⟨ao,n',cap,rfl⟩:∃ao n' cap,v'=.slice ao n' cap:=by
  rcases hown'.2 with ⟨hv,_⟩|⟨g,cap,cur,hv,_⟩
  ·exact⟨_,_,_,hv⟩
  ·exact⟨_,_,_,hv⟩
 have HX:=Lib.hid (show Bb (w2.setCell ⟨b,1,none⟩ (.slice ao n' cap)) B b (l++s.data.toList)/\Below B w (w2.setCell ⟨b,1,none⟩ (.slice ao n' cap)) from by
  refine⟨.inr ?_,((hb1.grown hgrow (by have:=hb1.size;omega) (fun k hk=>(hown.lt k hk).1)).setCell (p:=⟨b,1,none⟩) hB _)⟩;refine Lib.BuilderAt.put (T:=88) (e:=5) hB hb2 (bs':=bv (l++s.data.toList)) ?_ bb_ne;rw[bv_append,List.length_append,hbl,<-strCells_eq];simpa[Lib.strCells_length] using hown')
 clear hown hown' hgrow hb1 hbk hb2 hne hlt;go_wp2_with fail
 go_ret2
 exact⟨rfl,HX.out⟩
theorem byteCells_eq (l:List UInt8):Lib.byteCells l=bv l:=rfl
theorem string_any (B b:Nat) (l:List UInt8) (w:World) (h:Bb w B b l) (hB:B<=w.heap.size) :
  Calls Tryz.prog 33 #[.pointer (some ⟨b,0,none⟩)] w fun e w'=>e=.returned (.string ⟨l.toArray⟩)/\Below B w w' :=
 Tryz.Builder_String_any B b l w h hB
theorem bb_new (w:World):Bb (w.alloc (.cells #[.pointer none,.slice none 0 0] 88)) w.heap.size w.heap.size []:=Lib.fresh_isBuilder _ _ w
theorem Bb.lt {w:World} {B b:Nat} {l:List UInt8} (h:Bb w B b l):b<w.heap.size:=by
 rcases h with h|h
 ·exact h.lt
 ·exact h.lt
theorem Bb.keep {w w':World} {B b:Nat} {l:List UInt8} (h:Bb w B b l) (_hs:w.heap.size<=w'.heap.size) (hb:∀k,B<=k->k<w.heap.size->w'.heap[k]? =w.heap[k]?):Bb w' B b l:=by
 have key:∀p,Lib.BuilderAt 88 5 B b p (bv l) w->Lib.BuilderAt 88 5 B b p (bv l) w':=by
  intro p hp;have hlt:=hp.lt;obtain⟨hB,v,hbk,hown,hne⟩:=hp;refine⟨hB,v,(hb b hB hlt).trans hbk,?_,hne⟩;rcases hown with ⟨h1,h2⟩
  refine⟨h1,?_⟩;rcases h2 with h2|⟨g,cap,cur,hv,hg,hc,hr⟩
  ·exact .inl h2
  ·exact .inr ⟨g,cap,cur,hv,hg,(hb g hg (Array.getElem?_eq_some_iff.1 hc).1).trans hc,hr⟩
 rcases h with h|h
 ·exact .inl (key _ h)
 ·exact .inr (key _ h)
end Bd
end Go.Proofs.YtejcdhdfanfkbaaGreat
namespace Go.Proofs.YtejcdhdfanfkbaaGreat
namespace Sq
open Vi
theorem gv_put (n:Nat) (hn:n<9223372036854775808) (r:List UInt8):gv 0 0 (putV n++r)=(n,(putV n).length,0):=by
 have:=gv_putV n 0 0 r (by omega) (by simpa using hn) (by omega);simpa using this
end Sq
end Go.Proofs.YtejcdhdfanfkbaaGreat
namespace Go.Proofs.YtejcdhdfanfkbaaGreat
namespace Rd
open Vi Sq
def ok1 (r:Int×Int×ByteArray):Bool:=decide (1<=r.1/\r.1<=1000000000/\0<=r.2.1/\r.2.1<=1000000000/\r.2.2.size<=2000)
theorem ok1_iff (r:Int×Int×ByteArray):ok1 r=true↔1<=r.1/\r.1<=1000000000/\0<=r.2.1/\r.2.1<=1000000000/\r.2.2.size<=2000:=by simp[ok1]
def off:Option (Int×Int×ByteArray)->Int×Int×ByteArray->Bool
 |none,_=>false
 |some p,r=>decide (r.1≠p.1+1∨r.2.1<p.2.1)
def rowE:Option (Int×Int×ByteArray)->List (Int×Int×ByteArray)->Int
 |_,[]=>0
 |p,r::l=>if ok1 r=false then 150 else if off p r=true then 151 else rowE (some r) l
def recB (r:Int×Int×ByteArray):List UInt8:=putV r.1.toNat++(putV r.2.1.toNat++(putV r.2.2.size++r.2.2.data.toList))
def joinB (l:List (Int×Int×ByteArray)):List UInt8:=l.flatMap recB
def jE (l:List (Int×Int×ByteArray)):Int:=if rowE none l≠0 then rowE none l else if 20000<(joinB l).length then 3 else 0
def fin:Nat->List Nat->List UInt8->Int×List Nat×List UInt8
 |0,acc,b=>(0,acc,b)
 |k+1,acc,b=>if(gv 0 0 b).2.2≠0 then((gv 0 0 b).2.2,acc,[]) else fin k (acc++[(gv 0 0 b).1]) (b.drop (gv 0 0 b).2.1)
def rec1 (b:List UInt8):Option ((Int×Int×ByteArray)×List UInt8):=match fin 3 [] b with
 |(0,[q,t,n],r)=>if q<1∨1000000000<q∨1000000000<t∨2000<n then none else if r.length<n then none else some (((q:Int),(t:Int),⟨(r.take n).toArray⟩),r.drop n)
 |_=>none
def spl:Nat->List UInt8->Option (List (Int×Int×ByteArray))
 |0,b=>if b=[] then some [] else none
 |n+1,b=>if b=[] then some [] else match rec1 b with
  |none=>none
  |some x=>(spl n x.2).map (x.1:: ·)
def split (b:List UInt8):Option (List (Int×Int×ByteArray)):=if 20000<b.length then none else match spl b.length b with
 |none=>none
 |some l=>if rowE none l≠0 then none else some l
theorem fin_put (n:Nat) (hn:n<9223372036854775808) (k:Nat) (acc:List Nat) (r:List UInt8):fin (k+1) acc (putV n++r)=fin k (acc++[n]) r:=by
 rw[fin,gv_put n hn,if_neg (by simp)];simp
theorem recB_length (r:Int×Int×ByteArray):3<=(recB r).length:=by
 have:=length_putV_pos r.1.toNat;have:=length_putV_pos r.2.1.toNat;have:=length_putV_pos r.2.2.size;unfold recB;simp only[List.length_append];omega
theorem rec1_put (r:Int×Int×ByteArray) (h:ok1 r=true) (b:List UInt8):rec1 (recB r++b)=some (r,b):=by
 obtain⟨q,t,d⟩:=r;rw[ok1_iff] at h;simp only at h;obtain⟨q,rfl⟩:=Int.eq_ofNat_of_zero_le (show 0<=q by omega);obtain⟨t,rfl⟩:=Int.eq_ofNat_of_zero_le (show 0<=t by omega);have hd:d.data.toList.length=d.size:=rfl;unfold rec1 recB;simp only[List.append_assoc,Int.toNat_natCast];rw[fin_put q (by omega),fin_put t (by omega),fin_put d.size (by omega)];simp only[fin,List.nil_append,List.cons_append];rw[if_neg (by omega),if_neg (by simp only[List.length_append];omega)];rw[List.take_left' hd,List.drop_left' hd]
theorem fin_some:∀(k:Nat) (acc:List Nat) (b:List UInt8) (ns:List Nat) (r:List UInt8),fin k acc b=(0,ns,r)-> ∃l:List Nat,l.length=k/\ns=acc++l/\b=l.flatMap putV++r/\ ∀n∈l,n<9223372036854775808
 |0,acc,b,ns,r,h=>by
  simp only[fin,Prod.mk.injEq,true_and] at h;exact⟨[],rfl,by simp[h.1],by simp[h.2],by simp⟩
 |k+1,acc,b,ns,r,h=>by
  rw[fin] at h;split at h
  ·rename_i hc
   simp only[Prod.mk.injEq] at h;exact absurd h.1 hc
  rename_i hc
  obtain⟨l,hl,hns,hb,hlt⟩:=fin_some k _ _ _ _ h;obtain⟨n,rest,hb1,hv,hu,hn,-⟩:=gv_some b 0 0 (gv 0 0 b).1 (gv 0 0 b).2.1 (by
   have:(gv 0 0 b).2.2=0:=by simpa using hc
   rw[<-this])
  simp only[Nat.pow_zero,Nat.mul_one,Nat.zero_add] at hv hu;have hdr:b.drop (gv 0 0 b).2.1=rest:=by
   rw[hu]
   conv=>lhs;rw[hb1]
   simp
  rw[hdr] at hb;rw[hv] at hns;refine⟨n::l,by simp[hl],by simp[hns],?_,?_⟩
  ·rw[List.flatMap_cons,List.append_assoc,<-hb];exact hb1
  ·intro x hx
   rcases List.mem_cons.1 hx with rfl|hx
   ·simpa using hn
   ·exact hlt x hx
theorem rec1_some (b:List UInt8) (r:Int×Int×ByteArray) (b':List UInt8) (h:rec1 b=some (r,b')):ok1 r=true/\b=recB r++b':=by
 unfold rec1 at h;split at h
 ·rename_i q t n rr he
  obtain⟨l,hl,hns,hb,-⟩:=fin_some 3 [] b _ _ he;simp only[List.nil_append] at hns;subst hns;split at h
  ·simp at h
  split at h
  ·simp at h
  rename_i h1 h2
  simp only[Option.some.injEq,Prod.mk.injEq] at h;obtain⟨rfl,rfl⟩:=h;have e:(⟨(rr.take n).toArray⟩:ByteArray).size=n:=by
   have:(⟨(rr.take n).toArray⟩:ByteArray).size=(rr.take n).length:=by simp[ByteArray.size]
   rw[this,List.length_take];omega
  refine⟨?_,?_⟩
  ·rw[ok1_iff]
   simp only[e];omega
  ·rw[hb]
   unfold recB;simp only[Int.toNat_natCast,e];simp[List.append_assoc]
 ·simp at h
theorem spl_join:∀(l:List (Int×Int×ByteArray)) (n:Nat),(∀r∈l,ok1 r=true)->(joinB l).length<=n->spl n (joinB l)=some l
 | [],n,_,_=>by cases n<;>simp[spl,joinB]
 |r::l,n,h,hn=>by
  have e:joinB (r::l)=recB r++joinB l:=List.flatMap_cons ..;have h3:=recB_length r;rw[e,List.length_append] at hn;obtain⟨n,rfl⟩:∃m,n=m+1:=⟨n-1,by omega⟩
  rw[e,spl,if_neg (by intro e2;have:=congrArg List.length e2;simp at this;rw[this.1] at h3;simp at h3),rec1_put r (h r (List.mem_cons_self ..))];simp only;rw[spl_join l n (fun x hx=>h x (List.mem_cons_of_mem _ hx)) (by omega)];rfl
theorem spl_some:∀(n:Nat) (b:List UInt8) (l:List (Int×Int×ByteArray)),spl n b=some l->b=joinB l/\ ∀r∈l,ok1 r=true
 |0,b,l,h=>by
  rw[spl] at h;split at h
  ·simp only[Option.some.injEq] at h;subst h;rename_i hb;simp[hb,joinB]
  ·simp at h
 |n+1,b,l,h=>by
  rw[spl] at h;split at h
  ·simp only[Option.some.injEq] at h;subst h;rename_i hb;simp[hb,joinB]
  split at h
  ·simp at h
  rename_i x hx
  obtain⟨l',hl',rfl⟩:=Option.map_eq_some_iff.1 h;obtain⟨h1,h2⟩:=spl_some n x.2 l' hl';obtain⟨h3,h4⟩:=rec1_some b x.1 x.2 hx;refine⟨?_,?_⟩
  ·rw[h4,h1];exact(List.flatMap_cons ..).symm
  ·intro r hr
   rcases List.mem_cons.1 hr with rfl|hr
   ·exact h3
   ·exact h2 r hr
theorem rowE_ok:∀(l:List (Int×Int×ByteArray)) (p:Option (Int×Int×ByteArray)),rowE p l=0-> ∀r∈l,ok1 r=true
 | [],_,_=>by simp
 |r::l,p,h=>by
  rw[rowE] at h;split at h;·simp at h
  split at h;·simp at h
  rename_i h1 _
  intro x hx;rcases List.mem_cons.1 hx with rfl|hx
  ·simpa using h1
  ·exact rowE_ok l _ h x hx
theorem split_join (l:List (Int×Int×ByteArray)) (h:jE l=0):split (joinB l)=some l:=by
 unfold jE at h;split at h
 ·rename_i h1;exact absurd h h1
 split at h;·simp at h
 rename_i h1 h2
 have h1:rowE none l=0:=by simpa using h1
 unfold split;rw[if_neg h2,spl_join l _ (rowE_ok l _ h1) (Nat.le_refl _)];simp[h1]
theorem split_some (b:List UInt8) (l:List (Int×Int×ByteArray)) (h:split b=some l):b=joinB l/\jE l=0:=by
 unfold split at h;split at h;·simp at h
 split at h;·simp at h
 rename_i h2 _ l' hl'
 split at h;·simp at h
 rename_i h3
 simp only[Option.some.injEq] at h;subst h;obtain⟨h4,-⟩:=spl_some _ _ _ hl';refine⟨h4,?_⟩;unfold jE;rw[if_neg h3,if_neg (by rw[<-h4];exact h2)]
end Rd
end Go.Proofs.YtejcdhdfanfkbaaGreat
namespace Go.Proofs.YtejcdhdfanfkbaaGreat
namespace Vi
open Go.RowKit
set_option maxRecDepth 20000 in
theorem or128 (n:Nat):bits .or .u8 ((n:Int)%256) 128=((UInt8.ofNat (n%128+128)).toNat:Int):=by
 have h:∀a:Fin 256,bits .or .u8 (a.val:Int) 128=((a.val%128+128:Nat):Int):=by decide
 have:=h ⟨n%256,by omega⟩;rw[toNat_ofNat _ (by omega)];rw[show(n:Int)%256=((n%256:Nat):Int) by omega,this];simp only;omega
theorem low7 (n:Nat) (h:n<128):(n:Int)=((UInt8.ofNat n).toNat:Int):=by
 rw[toNat_ofNat _ (by omega)]
set_option maxHeartbeats 1600000 in
set_option maxRecDepth 100000 in
theorem add_any (v:Value) (l:List UInt8) (B N:Nat) (w:World) (hown:OwnB w B v l) (hB:B<=w.heap.size) (hl:l.length<=1000000) (hN:N<9223372036854775808) (hput:(putV N).length<=9) :
  Calls Tryz.prog 149 #[v,.int .i64 (N:Int)] w fun e w'=>∃v',e=.returned v'/\OwnB w' B v' (l++putV N)/\Below B w w':=by
 go_enter Tryz.func149, Tryz.ntmps149
 go_wp2_with fail
 go_loopw [0,1] (fun v1 m wr=>∃(mk:Nat) (acc:List UInt8),m=.int .i64 mk/\mk<9223372036854775808/\Hid (acc++putV mk=l++putV N)/\acc.length<=2000000/\OwnB wr B v1 acc/\Below B w wr) (fun _ m _=>(intOf m).toNat)
 case atStart=>exact⟨N,l,by go_num,hN,rfl,by omega,hown,Below.refl _ _⟩
 case round =>
  obtain⟨mk,acc,rfl,hm,heq,hacc,hown,hbw⟩:=hrel;by_cases hlt:128<=mk
  ·go_wp2_with (at_builtin;refine appendB (UInt8.ofNat (mk%128+128)) (or128 mk) hown (by omega) (Nat.le_trans hB hbw.size) ?_;intro A1 n1 c1 w1 _ hown1 hb1 _ _)
   have hac:(acc++[UInt8.ofNat (mk%128+128)])++putV (mk/128)=l++putV N:=by
    have:=heq.out;rw[putV_step (by omega)] at this;simpa using this
   have hll:=congrArg List.length hac;simp only[List.length_append,List.length_cons,List.length_nil] at hll;exact⟨⟨mk/128,acc++[UInt8.ofNat (mk%128+128)],by go_num,by omega,hac,by simp;omega,hown1,hbw.trans hb1⟩,by simp[intOf];omega⟩
  ·go_wp2_with (at_builtin;refine appendB (UInt8.ofNat mk) (low7 mk (by omega)) hown (by omega) (Nat.le_trans hB hbw.size) ?_;intro A1 n1 c1 w1 _ hown1 hb1 _ _)
   go_ret
   have hd:putV mk=[UInt8.ofNat mk]:=putV_small (by omega);have he:acc++[UInt8.ofNat mk]=l++putV N:=by have:=heq.out;rwa [hd] at this
   exact⟨_,rfl,he▸hown1,hbw.trans hb1⟩
def vtxt (n:Nat):ByteArray:=⟨(putV n).toArray⟩
set_option maxHeartbeats 1600000 in
set_option maxRecDepth 100000 in
theorem put_any (N:Nat) (w:World) (hN:N<9223372036854775808) :
  Calls Tryz.prog 85 #[.int .i64 (N:Int)] w fun e w'=>e=.returned (.tuple #[.string (vtxt N),.int .i64 0])/\Below w.heap.size w w':=by
 have hput:(putV N).length<=9:=length_putV_le N 8 (by omega)
 go_enter Tryz.func85, Tryz.ntmps85
 go_wp2_with (at_make;(refine makeB0 (n:=9) (by omega) (Nat.le_refl w.heap.size) ?_);intro w1 hown1 hg1 hz1)
 refine(add_any _ [] w.heap.size N w1 hown1 (by omega) (by simp) hN hput).mono ?_;rintro e w2 ⟨v',rfl,hown2,hb2⟩;rw[List.nil_append] at hown2;obtain⟨A,c,rfl,_,_,hrd⟩:=hown2.rd;have hs:=run_str (c:=c) hrd;have hb1:Below w.heap.size w w1:=(Below.refl _ _).grown hg1 (Nat.le_refl _) (by simp);go_wp2
 go_ret2
 exact⟨rfl,hb1.trans hb2⟩
end Vi
end Go.Proofs.YtejcdhdfanfkbaaGreat
