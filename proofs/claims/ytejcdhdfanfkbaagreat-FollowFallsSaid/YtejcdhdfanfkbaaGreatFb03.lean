/- Slices of structs, whatever these are: read, opened as they come in. Over any program, no conditions of a row. strings.Builder: String: the shelf's contracts at this dump (written by the kit's lay-shelf.mjs and lay-plain.mjs; cut to one). Slices of numbers, and of bytes, that the call itself makes: append, make, string(b). No conditions. Slices of numbers of the call's own, read and written by their places. -/
import Derived.Test.YtejcdhdfanfkbaaGreatFb01
import Derived.Test.YtejcdhdfanfkbaaGreatFb02
import Derived.Deep.Slices
import Derived.Deep.Fields
import Derived.ChangeSame
import Derived.Shelf.Strings.Builder1
import Derived.Test.YtejcdhdfanfkbaaGreatRows
import Derived.Laws.OwnMore
namespace Go.Proofs.YtejcdhdfanfkbaaGreat
open Go.RowKit Go.ChangeShapes Go.WideShapes Go.Deep
class Sh (α:Type) (K:outParam Nat) where
 cl:α->List Value
 len:∀x,(cl x).length=K
 pos:0<K
section
variable {α:Type} {K:Nat} [Sh α K]
def flS (l:List α):List Value:=l.flatMap Sh.cl
theorem flS_cons (x:α) (l:List α):flS (x::l)=Sh.cl x++flS l:=rfl
theorem length_flS:∀l:List α,(flS l).length=l.length*K
 | []=>by simp[flS]
 |x::l=>by rw[flS_cons,List.length_append,length_flS l,Sh.len,List.length_cons,Nat.succ_mul];omega
theorem flS_append (a b:List α):flS (a++b)=flS a++flS b:=List.flatMap_append ..
theorem flS_at:∀(l:List α) (k:Nat) (x:α),l[k]? =some x-> ∀j,j<K->(flS l)[k*K+j]? =(Sh.cl x)[j]?
 | [],k,x,h,_,_=>by simp at h
 |y::l,0,x,h,j,hj=>by
  simp only[List.getElem?_cons_zero,Option.some.injEq] at h;subst h;rw[flS_cons,Nat.zero_mul,Nat.zero_add,List.getElem?_append_left (by rw[Sh.len];exact hj)]
 |y::l,k+1,x,h,j,hj=>by
  have:=flS_at l k x (by simpa using h) j hj;rw[flS_cons,List.getElem?_append_right (by rw[Sh.len,Nat.succ_mul];omega),<-this,Sh.len,Nat.succ_mul];congr 1;omega
theorem flS_inv {l:List α} {j:Nat} {u:Value} (h:(flS l)[j]? =some u):∃(k s:Nat) (x:α),j=k*K+s/\s<K/\l[k]? =some x/\(Sh.cl x)[s]? =some u:=by
 have hj:j<l.length*K:=by rw[<-length_flS];exact(List.getElem?_eq_some_iff.1 h).1
 have hK:0<K:=Sh.pos α;have hk:j/K<l.length:=by rw[Nat.div_lt_iff_lt_mul hK];exact hj
 obtain⟨x,hx⟩:∃x,l[j/K]? =some x:=⟨_,List.getElem?_eq_getElem hk⟩
 have hs:j%K<K:=Nat.mod_lt _ hK;have e:j=j/K*K+j%K:=by rw[Nat.mul_comm];exact(Nat.div_add_mod j K).symm
 refine⟨j/K,j%K,x,e,hs,hx,?_⟩;rw[<-flS_at l _ x hx _ hs,<-e];exact h
theorem rdS_len {w:World} {B n:Nat} {A:Option Addr} {l:List α} (h:Rd w B K A n (flS l)):l.length=n:=by
 have:=h.len;rw[length_flS] at this;exact Nat.eq_of_mul_eq_mul_right (Sh.pos α) this
theorem sl_at {w:World} {B n k:Nat} {A:Option Addr} {l:List α} (h:Rd w B K A n (flS l)) (hk:k<n) :
  ∃ad x,A=some ad/\ad.block<B/\l[k]? =some x/\w.cell? (ad.add (k*K))=(Sh.cl x)[0]? /\ ∀j,j+1<K->w.cell? ⟨(ad.add (k*K)).block,(ad.add (k*K)).off+(j+1),none⟩=(Sh.cl x)[j+1]? :=by
 obtain⟨ad,e,hb,hc⟩:=h.cells (by omega);have hl:=rdS_len h;obtain⟨x,hx⟩:∃x,l[k]? =some x:=⟨l[k]'(by omega),List.getElem?_eq_getElem (by omega)⟩
 have key:∀j,j<K->w.cell? ((ad.add (k*K)).add j)=(Sh.cl x)[j]? :=by
  intro j hj;obtain⟨u,hu⟩:∃u,(Sh.cl x)[j]? =some u:=⟨_,List.getElem?_eq_getElem (by rw[Sh.len];exact hj)⟩
  rw[hu,add_add];exact hc _ u ((flS_at l k x hx j hj).trans hu)
 refine⟨ad,x,e,hb,hx,?_,fun j hj=>?_⟩
 ·have:=key 0 (Sh.pos α)
  rwa [show(ad.add (k*K)).add 0=ad.add (k*K) from by unfold Addr.add;simp] at this
 ·exact key (j+1) hj
theorem flS_one (h1:∀x:α,∀u∈Sh.cl x,u.oneCell'=true) (l:List α):∀u∈flS l,u.oneCell'=true:=by
 intro u hu;unfold flS at hu;rw[List.mem_flatMap] at hu;obtain⟨m,-,hm⟩:=hu;exact h1 m u hm
theorem flS_take (l:List α) (k:Nat):(flS l).take (k*K)=flS (l.take k):=by
 rcases Nat.lt_or_ge k l.length with h|h
 ·have e:flS l=flS (l.take k)++flS (l.drop k):=by rw[<-flS_append,List.take_append_drop]
  rw[e,List.take_append_of_le_length (by rw[length_flS,List.length_take,Nat.min_eq_left (by omega)];exact Nat.le_refl _),List.take_of_length_le (by rw[length_flS,List.length_take,Nat.min_eq_left (by omega)];exact Nat.le_refl _)]
 ·rw[List.take_of_length_le (by rw[length_flS];exact Nat.mul_le_mul_right _ h),List.take_of_length_le h]
theorem flS_drop (l:List α) (k:Nat):(flS l).drop (k*K)=flS (l.drop k):=by
 rcases Nat.lt_or_ge k l.length with h|h
 ·have e:flS l=flS (l.take k)++flS (l.drop k):=by rw[<-flS_append,List.take_append_drop]
  rw[e,List.drop_append_of_le_length (by rw[length_flS,List.length_take,Nat.min_eq_left (by omega)];exact Nat.le_refl _),List.drop_eq_nil_of_le (by rw[length_flS,List.length_take,Nat.min_eq_left (by omega)];exact Nat.le_refl _),List.nil_append]
 ·rw[List.drop_eq_nil_of_le (by rw[length_flS];exact Nat.mul_le_mul_right _ h),List.drop_eq_nil_of_le h];rfl
theorem open_sl [Inhabited α] {H:Type} {enc:TypeId×Value->H} {P:Program} {w:World} {t e:TypeId} {v:Value} {fuel:Nat} {y:DataW H×List MemPlace}
  (ht:P.underlying t=some (.slice e)) (hc:P.cellsOf e=K) (hdec:∀cs' fuel y,DataW.trod enc P w 0 (fun _=>true) true fuel e cs'=some y-> ∃x:α,cs'=Sh.cl x)
  (hf:DataW.trod enc P w 0 (fun _=>true) true fuel t [v]=some y) :
  ∃(A:Option Addr) (n c:Nat) (l:List α),v=.slice A n c/\Rd w w.heap.size K A n (flS l)/\n<=c/\c<=maxLen/\l.length=n/\(A=none->c=0):=by
 rcases Go.Deep.open_slice ht hf with ⟨hcs,-⟩|⟨a,len,cap,m,n,D,Pl,hcs,-,hl,hm,hmm,-,hx⟩
 ·simp at hcs
  subst hcs;exact⟨none,0,0,[],rfl,Rd.nil,Nat.le_refl _,by simp[maxLen],rfl,fun _=>rfl⟩
 ·simp at hcs
  subst hcs;rw[hc] at hx;have hlm:len<=m:=by rw[hmm,if_pos rfl];exact hl
  have hex:∀i,i<len-> ∃x:α,∀s u,(Sh.cl x)[s]? =some u->w.cell? (a.add (i*K+s))=some u:=by
   intro i hi;obtain⟨cs',hcl,htr⟩:=hx i (by omega);obtain⟨-,hlen,hat⟩:=World.cells?_some hcl;obtain⟨x,rfl⟩:=hdec _ _ _ htr;refine⟨x,fun s u hu=>?_⟩;rw[<-add_add,hat s (by rw[<-Sh.len x];exact(List.getElem?_eq_some_iff.1 hu).1)];exact hu
  obtain⟨R,hR⟩:=Go.Deep.choose_lt hex;refine⟨some a,len,cap,(List.range len).map R,rfl,⟨by rw[length_flS];simp,fun hn=>⟨a,rfl,?_,?_⟩⟩,hl,hm,by simp,by simp⟩
  ·obtain⟨u,hu⟩:∃u,(Sh.cl (R 0))[0]? =some u:=⟨_,List.getElem?_eq_getElem (by rw[Sh.len];exact Sh.pos α)⟩
   have h0:=World.block_lt_of_cell? w _ (hR 0 hn 0 _ hu)
   rwa [add_block] at h0
  ·intro j u hu
   obtain⟨k,s,x,rfl,hs,hk,hc⟩:=flS_inv hu;rw[List.getElem?_map] at hk;rcases Nat.lt_or_ge k len with hkl|hkl
   ·rw[List.getElem?_eq_getElem (by simpa using hkl)] at hk
    simp at hk
    subst hk;exact hR k hkl s u hc
   ·rw[List.getElem?_eq_none (by simpa using hkl)] at hk
    cases hk
end
end Go.Proofs.YtejcdhdfanfkbaaGreat
namespace Go.Proofs
open Go.Shelf
def Tryz.lays169_ren:Go.Shelf.Ren:=⟨fun|169=>33|n=>n,fun|70=>85|9=>9|0=>0|72=>88|37=>86|127=>174|3=>3|5=>5|n=>n,fun|n=>n⟩
theorem Tryz.lays169:Go.Proofs.Lays.n169 Tryz.prog Tryz.lays169_ren:={
 mixed:=by kernel_rfl
 f169:=Tryz.func33.trans (congrArg some (by kernel_rfl))
 t0:=Tryz.underlying0
 a0:=Tryz.isAgg0
 z0:=Tryz.sizeOf0
 v0:=Tryz.zeroValue0
 t3:=Tryz.underlying3
 a3:=Tryz.isAgg3
 z3:=Tryz.sizeOf3
 v3:=Tryz.zeroValue3
 t9:=Tryz.underlying9
 a9:=Tryz.isAgg9
 z9:=Tryz.sizeOf9
 v9:=Tryz.zeroValue9
 t37:=Tryz.underlying86
 a37:=Tryz.isAgg86
 z37:=Tryz.sizeOf86
 v37:=Tryz.zeroValue86
 t70:=Tryz.underlying85
 a70:=Tryz.isAgg85
 z70:=Tryz.sizeOf85
 v70:=Tryz.zeroValue85
 t72:=Tryz.underlying88
 a72:=Tryz.isAgg88
 z72:=Tryz.sizeOf88
 v72:=Tryz.zeroValue88
 t127:=Tryz.underlying174
 a127:=Tryz.isAgg174
 z127:=Tryz.sizeOf174
 v127:=Tryz.zeroValue174 }
theorem Tryz.Builder_Extra_169:Builder.Extra Tryz.prog Tryz.lays169_ren:={
 sizeBuilder:=by kernel_rfl
 liesBuilder:=by kernel_rfl
 t5:=Tryz.underlying5
 a5:=Tryz.isAgg5
 z5:=Tryz.sizeOf5
 v5:=Tryz.zeroValue5
 infoByte:=by kernel_rfl
 cellsByte:=by kernel_rfl
 sizeByte:=by kernel_rfl
 neB5:=by decide }
open Go.RowKit in
theorem Tryz.Builder_String_any (B b:Nat) (l:List UInt8) (w:World) (h:Lib.IsBuilder 88 5 B b (Lib.byteCells l) w) (hBw:B<=w.heap.size) :
  Calls Tryz.prog 33 #[.pointer (some ⟨b,0,none⟩)] w fun e w'=>e=.returned (.string ⟨l.toArray⟩)/\Below B w w':=Any.Builder_String_any Tryz.lays169 Tryz.Builder_Extra_169 B b l w h hBw
end Go.Proofs
namespace Go.Proofs.YtejcdhdfanfkbaaGreat
open Go.RowKit
theorem int_info:(Tryz.prog.info? 3).map (fun i=>(i.zero,i.size,i.bytes))=some (some (.int .i64 0),1,8):=by kernel_rfl
def Own (w:World) (B:Nat) (v:Value) (l:List Int):Prop:=w.ownsRow B 3 1 v l.length (l.map (Value.int .i64))
section
variable {ops:Array Oper} {rest:List Oper} {o:Oper} {a:Act} {Q:Exit->Act->World->Prop}
theorem append1 {s x:Operand} {B:Nat} {v:Value} {l:List Int} {w0:World} {y:Int} (hown:Own w0 B v l) (hl:l.length<=1099511627776) (hB:B<=w0.heap.size)
  (h:∀A' n' c' w',Hid (n'=l.length+1)->Own w' B (.slice A' n' c') (l++[y])->Below B w0 w'->w0.grownBy w' v.ownBlock->(Value.ownBlock (.slice A' n' c')=v.ownBlock∨ ∃g,Value.ownBlock (.slice A' n' c')=some g/\w0.heap.size<=g)->wpList Tryz.prog ops Q rest (a.put o.dst (.slice A' n' c')) w')
  (hgd:o.guard=none:=by exact rfl) (ho:o.op=.call { callee:=.builtin .append,args:=#[s,x],argTypes:=#[47,47] }:=by exact rfl)
  (hs:a.eval s=v:=by exact rfl) (hx:a.eval x=.slice (some ⟨w0.heap.size,0,none⟩) 1 1:=by exact rfl) :
  wpList Tryz.prog ops Q (o::rest) a (w0.alloc (.cells #[.int .i64 y] 3)):=by
 obtain⟨i0,hi,hz0,hz1,hz2⟩:=info_parts int_info;refine wpList_append_own_at _ hgd s x 47 ho B 3 i0 (.int .i64 0) 1 8 Tryz.underlying47 hi hz0 hz1 hz2 rfl (by omega) v l.length (l.map (Value.int .i64)) hs (hown.alloc _)
  ⟨w0.heap.size,0,none⟩ 1 1 [.int .i64 y] hx rfl (cell_one_new w0 _ _) (by intro u hu;simp at hu;subst hu;rfl) (by simp only[maxLen];omega) (by omega) (by simp;omega) ?_
 intro v' w' hown' hg _ hat;have hg0:w0.grownBy w' v.ownBlock:=(World.grownBy_alloc w0 _ v.ownBlock).trans hg;have hlt:=World.ownsRow.lt hown;obtain⟨A',c',rfl,_,_⟩:=own_slice hown';refine h A' _ c' w' rfl (by unfold Own;simpa using hown') ((Below.refl _ _).grown hg0 hB (fun k hk=>(hlt k hk).1)) hg0 ?_;rcases hat with e|e
 ·exact .inl e
 ·exact .inr ⟨_,e,by simp⟩
theorem appendZ {s x:Operand} {B:Nat} {v:Value} {l:List Int} {w0:World} {kI:Int} (k:Nat) (hkI:kI=(k:Int)) (hown:Own w0 B v l) (hl:l.length+k<=1099511627776) (hB:B<=w0.heap.size)
  (h:∀A' n' c' w',Hid (n'=l.length+k)->Own w' B (.slice A' n' c') (l++List.replicate k 0)->Below B w0 w'->w0.grownBy w' v.ownBlock->(Value.ownBlock (.slice A' n' c')=v.ownBlock∨ ∃g,Value.ownBlock (.slice A' n' c')=some g/\w0.heap.size<=g)->wpList Tryz.prog ops Q rest (a.put o.dst (.slice A' n' c')) w')
  (hgd:o.guard=none:=by exact rfl) (ho:o.op=.call { callee:=.builtin .append,args:=#[s,x],argTypes:=#[47,3] }:=by exact rfl)
  (hs:a.eval s=v:=by exact rfl) (hx:a.eval x=.int .i64 kI:=by exact rfl) :
  wpList Tryz.prog ops Q (o::rest) a w0:=by
 obtain⟨i0,hi,hz0,hz1,hz2⟩:=info_parts int_info;refine wpList_append_zeros w0 hgd s x 47 3 ho B 3 i0 (.int .i64 0) 8 .i64 .i64 Tryz.underlying47 Tryz.underlying3 hi hz0 hz1 hz2 rfl rfl v l.length (l.map (Value.int .i64)) hs hown
  kI k hx hkI (by simp only[maxLen];omega) (by omega) hB ?_
 intro v' w' hown' hg hat;have hlt:=World.ownsRow.lt hown;obtain⟨A',c',rfl,_,_⟩:=own_slice hown';refine h A' _ c' w' rfl (by unfold Own;simpa using hown') ((Below.refl _ _).grown hg hB (fun k hk=>(hlt k hk).1)) hg ?_;rcases hat with e|e
 ·exact .inl e
 ·exact .inr ⟨_,e,Nat.le_refl _⟩
theorem make0 {lo co:Operand} {kl kc:IntKind} {n:Nat} {w:World} {B:Nat} (hn:n<=1099511627776) (hB:B<=w.heap.size)
  (h:∀w',Own w' B (.slice (some ⟨w.heap.size,0,none⟩) 0 n) []->w.grownBy w' none->w.heap.size<w'.heap.size->wpList Tryz.prog ops Q rest (a.put o.dst (.slice (some ⟨w.heap.size,0,none⟩) 0 n)) w')
  (hgd:o.guard=none:=by exact rfl) (ho:o.op=Op.makeSlice 47 lo co:=by exact rfl) (hl:a.eval lo=.int kl 0:=by exact rfl) (hc:a.eval co=.int kc (n:Int):=by exact rfl) :
  wpList Tryz.prog ops Q (o::rest) a w:=by
 obtain⟨i0,hi,hz0,hz1,hz2⟩:=info_parts int_info;refine wpList_make_own w hgd lo co 47 ho B 3 i0 (.int .i64 0) 1 Tryz.underlying47 hi hz0 hz1 kl kc n n hl hc rfl (by rw[hz2];omega) (by simp only[maxLen];omega) hB ?_;intro w' hown hg;exact h w' hown hg (World.ownsRow.lt hown w.heap.size rfl).2
end
theorem Own.below {w w':World} {B C:Nat} {v:Value} {l:List Int} (h:Own w B v l) (hb:Below C w w') (hC:w.heap.size<=C):Own w' B v l:=own_below h hb hC
theorem Own.lower {w:World} {B C:Nat} {v:Value} {l:List Int} (h:Own w B v l) (hC:C<=B):Own w C v l:=own_lower h hC
theorem Own.rd {w:World} {B:Nat} {v:Value} {l:List Int} (h:Own w B v l):∃A c,v=.slice A l.length c/\l.length<=c/\c<=maxLen/\Rd w w.heap.size 1 A l.length (l.map (Value.int .i64)):=by
 obtain⟨A,c,rfl,hc,hm⟩:=own_slice h;exact⟨A,c,rfl,hc,hm,Rd.of_own h⟩
theorem rd_lit (w:World) (t:TypeId) (l:List Int):Rd (w.alloc (.cells (l.map (Value.int .i64)).toArray t)) (w.alloc (.cells (l.map (Value.int .i64)).toArray t)).heap.size 1 (some ⟨w.heap.size,0,none⟩) l.length (l.map (Value.int .i64)):=by
 refine⟨by simp,fun _=>⟨_,rfl,by simp,fun j u hu=>?_⟩⟩;rw[Addr.add_lit,Nat.zero_add];rw[World.cell?_alloc_new];simpa using hu
theorem Own.rd0 {w:World} {B n c:Nat} {A:Option Addr} {l:List Int} (h:Own w B (.slice A n c) l):Rd w w.heap.size 1 A l.length (l.map (Value.int .i64))/\n=l.length:=by
 obtain⟨A',c',e,_,_,r⟩:=h.rd;simp only[Value.slice.injEq] at e;obtain⟨rfl,rfl,rfl⟩:=e;exact⟨r,rfl⟩
theorem make1 {ops:Array Oper} {rest:List Oper} {o:Oper} {a:Act} {Q:Exit->Act->World->Prop} {lo co:Operand} {kl kc:IntKind} {n:Nat} {w:World} {B:Nat} (hn:n<=1099511627776) (hB:B<=w.heap.size)
  (h:∀w',Own w' B (.slice (some ⟨w.heap.size,0,none⟩) n n) (List.replicate n 0)->w.grownBy w' none->wpList Tryz.prog ops Q rest (a.put o.dst (.slice (some ⟨w.heap.size,0,none⟩) n n)) w')
  (hgd:o.guard=none:=by exact rfl) (ho:o.op=Op.makeSlice 47 lo co:=by exact rfl) (hl:a.eval lo=.int kl (n:Int):=by exact rfl) (hc:a.eval co=.int kc (n:Int):=by exact rfl) :
  wpList Tryz.prog ops Q (o::rest) a w:=by
 obtain⟨i0,hi,hz0,hz1,hz2⟩:=info_parts int_info;refine wpList_make_full w hgd lo co 47 ho B 3 i0 (.int .i64 0) 1 Tryz.underlying47 hi hz0 hz1 kl kc n n n hl hc rfl rfl (by rw[hz2];omega) (by simp only[maxLen];omega) hB ?_;intro w' hown hg;refine h w' ?_ hg;unfold Own;rw[List.length_replicate,List.map_replicate]
 rwa [Nat.mul_one,show(Value.int .i64 0).cells= #[.int .i64 0] from rfl,toList_madeCells_one] at hown
def InS (w:World) (A:Option Addr) (n c:Nat) (l:List Int):Prop:=Rd w w.heap.size 1 A n (l.map (Value.int .i64))/\n<=c/\c<=maxLen/\l.length=n/\ ∀z∈l,(Lit.int .i64 z).wf=true
theorem take_snoc_int (l:List Int) (k:Nat) (u:Int) (h:l[k]? =some u):l.take (k+1)=l.take k++[u]:=by
 rw[List.take_add_one,h];rfl
theorem drop_at {α:Type} (l:List α) (k:Nat) (x:α) (h:l[k]? =some x):l.drop k=x::l.drop (k+1):=by
 have hk:k<l.length:=(List.getElem?_eq_some_iff.1 h).1;rw[List.drop_eq_getElem_cons hk];rw[List.getElem?_eq_getElem hk] at h;congr 1;exact Option.some.inj h
def bv (l:List UInt8):List Value:=l.map fun c=>Value.int .u8 (c.toNat:Int)
theorem bv_length (l:List UInt8):(bv l).length=l.length:=List.length_map ..
theorem bv_append (l r:List UInt8):bv (l++r)=bv l++bv r:=List.map_append ..
theorem bv_ok (l:List UInt8):∀u∈bv l,u.oneCell'=true:=by
 intro u hu;obtain⟨_,_,rfl⟩:=List.mem_map.1 hu;rfl
theorem byte_info:(Tryz.prog.info? 5).map (fun i=>(i.zero,i.size,i.bytes))=some (some (.int .u8 0),1,1):=by kernel_rfl
def OwnB (w:World) (B:Nat) (v:Value) (l:List UInt8):Prop:=w.ownsRow B 5 1 v l.length (bv l)
section
variable {ops:Array Oper} {rest:List Oper} {o:Oper} {a:Act} {Q:Exit->Act->World->Prop}
theorem appendB {s x:Operand} {B:Nat} {v:Value} {l:List UInt8} {w0:World} {z:Int} (y:UInt8) (hz:z=(y.toNat:Int)) (hown:OwnB w0 B v l) (hl:l.length<=1099511627776) (hB:B<=w0.heap.size)
  (h:∀A' n' c' w',Hid (n'=l.length+1)->OwnB w' B (.slice A' n' c') (l++[y])->Below B w0 w'->w0.grownBy w' v.ownBlock->(Value.ownBlock (.slice A' n' c')=v.ownBlock∨ ∃g,Value.ownBlock (.slice A' n' c')=some g/\w0.heap.size<=g)->wpList Tryz.prog ops Q rest (a.put o.dst (.slice A' n' c')) w')
  (hgd:o.guard=none:=by exact rfl) (ho:o.op=.call { callee:=.builtin .append,args:=#[s,x],argTypes:=#[86,86] }:=by exact rfl)
  (hs:a.eval s=v:=by exact rfl) (hx:a.eval x=.slice (some ⟨w0.heap.size,0,none⟩) 1 1:=by exact rfl) :
  wpList Tryz.prog ops Q (o::rest) a (w0.alloc (.cells #[.int .u8 z] 5)):=by
 subst hz;obtain⟨i0,hi,hz0,hz1,hz2⟩:=info_parts byte_info;refine wpList_append_own_at _ hgd s x 86 ho B 5 i0 (.int .u8 0) 1 1 Tryz.underlying86 hi hz0 hz1 hz2 rfl (by omega) v l.length (bv l) hs (hown.alloc _)
  ⟨w0.heap.size,0,none⟩ 1 1 [.int .u8 (y.toNat:Int)] hx rfl (cell_one_new w0 _ _) (by intro u hu;simp at hu;subst hu;rfl) (by simp only[maxLen];omega) (by omega) (by simp;omega) ?_
 intro v' w' hown' hg _ hat;have hg0:w0.grownBy w' v.ownBlock:=(World.grownBy_alloc w0 _ v.ownBlock).trans hg;have hlt:=World.ownsRow.lt hown;obtain⟨A',c',rfl,_,_⟩:=own_slice hown';refine h A' _ c' w' rfl (by unfold OwnB;rw[bv_append];simpa[bv] using hown') ((Below.refl _ _).grown hg0 hB (fun k hk=>(hlt k hk).1)) hg0 ?_;rcases hat with e|e
 ·exact .inl e
 ·exact .inr ⟨_,e,by simp⟩
theorem makeB0 {lo co:Operand} {kl kc:IntKind} {n:Nat} {w:World} {B:Nat} (hn:n<=1099511627776) (hB:B<=w.heap.size)
  (h:∀w',OwnB w' B (.slice (some ⟨w.heap.size,0,none⟩) 0 n) []->w.grownBy w' none->w.heap.size<w'.heap.size->wpList Tryz.prog ops Q rest (a.put o.dst (.slice (some ⟨w.heap.size,0,none⟩) 0 n)) w')
  (hgd:o.guard=none:=by exact rfl) (ho:o.op=Op.makeSlice 86 lo co:=by exact rfl) (hl:a.eval lo=.int kl 0:=by exact rfl) (hc:a.eval co=.int kc (n:Int):=by exact rfl) :
  wpList Tryz.prog ops Q (o::rest) a w:=by
 obtain⟨i0,hi,hz0,hz1,hz2⟩:=info_parts byte_info;refine wpList_make_own w hgd lo co 86 ho B 5 i0 (.int .u8 0) 1 Tryz.underlying86 hi hz0 hz1 kl kc n n hl hc rfl (by rw[hz2];omega) (by simp only[maxLen];omega) hB ?_;intro w' hown hg;exact h w' hown hg (World.ownsRow.lt hown w.heap.size rfl).2
theorem makeB1 {lo co:Operand} {kl kc:IntKind} {n:Nat} {w:World} {B:Nat} (hn:n<=1099511627776) (hB:B<=w.heap.size)
  (h:∀w',OwnB w' B (.slice (some ⟨w.heap.size,0,none⟩) n n) (List.replicate n 0)->w.grownBy w' none->wpList Tryz.prog ops Q rest (a.put o.dst (.slice (some ⟨w.heap.size,0,none⟩) n n)) w')
  (hgd:o.guard=none:=by exact rfl) (ho:o.op=Op.makeSlice 86 lo co:=by exact rfl) (hl:a.eval lo=.int kl (n:Int):=by exact rfl) (hc:a.eval co=.int kc (n:Int):=by exact rfl) :
  wpList Tryz.prog ops Q (o::rest) a w:=by
 obtain⟨i0,hi,hz0,hz1,hz2⟩:=info_parts byte_info;refine wpList_make_full w hgd lo co 86 ho B 5 i0 (.int .u8 0) 1 Tryz.underlying86 hi hz0 hz1 kl kc n n n hl hc rfl rfl (by rw[hz2];omega) (by simp only[maxLen];omega) hB ?_;intro w' hown hg;refine h w' ?_ hg;unfold OwnB bv;rw[List.length_replicate,List.map_replicate]
 rwa [Nat.mul_one,show(Value.int .u8 0).cells= #[.int .u8 0] from rfl,toList_madeCells_one] at hown
end
theorem OwnB.below {w w':World} {B C:Nat} {v:Value} {l:List UInt8} (h:OwnB w B v l) (hb:Below C w w') (hC:w.heap.size<=C):OwnB w' B v l:=own_below h hb hC
theorem OwnB.rd {w:World} {B:Nat} {v:Value} {l:List UInt8} (h:OwnB w B v l):∃A c,v=.slice A l.length c/\l.length<=c/\c<=maxLen/\Rd w w.heap.size 1 A l.length (bv l):=by
 obtain⟨A,c,rfl,hc,hm⟩:=own_slice h;exact⟨A,c,rfl,hc,hm,Rd.of_own h⟩
theorem run_str {w:World} {A:Option Addr} {n c B:Nat} {l:List UInt8} (h:Rd w B 1 A n (bv l)) :
  (convert 86 9 (.slice A n c)).run Tryz.prog w=.ok (.string ⟨l.toArray⟩) w:=by
 have hl:l.length=n:=by have:=h.len;rw[bv_length] at this;omega
 subst hl;rcases A with _|ad
 ·have h0:l=[]:=by
   rcases l with _|⟨x,r⟩
   ·rfl
   ·obtain⟨_,e,_⟩:=h.cells (by simp)
    cases e
  subst h0;exact run_convert_bytes_nil w 86 5 Tryz.underlying86 Tryz.underlying5 0 c 9 Tryz.underlying9
 ·refine run_convert_bytes_back w 86 9 5 ad c l Tryz.underlying86 Tryz.underlying5 Tryz.underlying9 ?_
  intro j hj;obtain⟨ad',e,_,hc⟩:=h.cells (by omega);cases e
  exact hc j _ (by simp[bv,List.getElem?_eq_getElem hj])
end Go.Proofs.YtejcdhdfanfkbaaGreat
namespace Go.Proofs.YtejcdhdfanfkbaaGreat
open Go.RowKit
section
variable {w w':World} {B n c:Nat} {A:Option Addr} {l:List Int}
theorem Own.form0 (h:Own w B (.slice A n c) l) (hn:0<n):∃g,A=some ⟨g,0,none⟩/\B<=g/\g<w.heap.size:=by
 obtain⟨_,rfl⟩:=h.rd0;obtain⟨_,h2⟩:=h;rcases h2 with ⟨hv,h0⟩|⟨g,cap,cur,hv,hg,hh,_⟩
 ·omega
 ·cases hv
  exact⟨g,rfl,hg,(Array.getElem?_eq_some_iff.1 hh).1⟩
theorem Own.cell {g k:Nat} {x:Int} (h:Own w B (.slice (some ⟨g,0,none⟩) n c) l) (hk:l[k]? =some x):w.cell? ⟨g,k,none⟩=some (.int .i64 x):=by
 obtain⟨r,rfl⟩:=h.rd0;have hlt:=(List.getElem?_eq_some_iff.1 hk).1;obtain⟨ad,e,_,hc⟩:=r.cells (by omega);cases e
 have:=hc k (.int .i64 x) (by rw[List.getElem?_map,hk];rfl)
 rwa [Addr.add_lit,Nat.zero_add] at this
theorem Own.frozen {g k:Nat} (h:Own w B (.slice (some ⟨g,0,none⟩) n c) l):w.frozen? ⟨g,k,none⟩=false:=by
 obtain⟨_,h2⟩:=h;rcases h2 with ⟨hv,h0⟩|⟨g',cap,cur,hv,hg,hh,_⟩
 ·cases hv
 ·cases hv
  simp[World.frozen?,hh]
theorem Own.put {g k:Nat} (h:Own w B (.slice (some ⟨g,0,none⟩) n c) l) (x:Int):Own (w.setCell ⟨g,k,none⟩ (.int .i64 x)) B (.slice (some ⟨g,0,none⟩) n c) (l.set k x):=by
 obtain⟨_,rfl⟩:=h.rd0;have:=(World.ownsRow.stored h k (.int .i64 x)).1;unfold Own;rw[List.length_set,List.map_set];exact this
theorem Own.ge {g:Nat} (h:Own w B (.slice (some ⟨g,0,none⟩) n c) l):B<=g:=by
 obtain⟨_,h2⟩:=h;rcases h2 with ⟨hv,h0⟩|⟨g',cap,cur,hv,hg,_⟩
 ·cases hv
 ·cases hv;exact hg
theorem Own.put2 {w0:World} {g k:Nat} (h:Own w B (.slice (some ⟨g,0,none⟩) n c) l/\Below B w0 w) (x:Int):Own (w.setCell ⟨g,k,none⟩ (.int .i64 x)) B (.slice (some ⟨g,0,none⟩) n c) (l.set k x)/\Below B w0 (w.setCell ⟨g,k,none⟩ (.int .i64 x)) :=
 ⟨h.1.put x,h.2.setCell (p:=⟨g,k,none⟩) h.1.ge _⟩
theorem at_some (l:List Int) (k:Nat) (hk:k<l.length):l[k]? =some (l.getD k 0):=by
 rw[List.getD_eq_getElem?_getD,List.getElem?_eq_getElem hk];rfl
end
end Go.Proofs.YtejcdhdfanfkbaaGreat
