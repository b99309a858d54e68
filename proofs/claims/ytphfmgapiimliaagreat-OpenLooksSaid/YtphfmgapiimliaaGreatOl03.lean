/- Slices of numbers, and of bytes, that the call itself makes: append, make, string(b). No conditions. Slices of numbers of the call's own, read and written by their places. Slices of pairs of numbers (structs of two cells) that the call itself makes. -/
import Derived.Test.YtphfmgapiimliaaGreatRows
import Derived.Test.YtphfmgapiimliaaGreatOl02
import Derived.Laws.OwnMore
namespace Go.Proofs.YtphfmgapiimliaaGreat
open Go.RowKit
theorem int_info:(Tryz.prog.info? 3).map (fun i=>(i.zero,i.size,i.bytes))=some (some (.int .i64 0),1,8):=by kernel_rfl
def Own (w:World) (B:Nat) (v:Value) (l:List Int):Prop:=w.ownsRow B 3 1 v l.length (l.map (Value.int .i64))
section
variable {ops:Array Oper} {rest:List Oper} {o:Oper} {a:Act} {Q:Exit->Act->World->Prop}
theorem append1 {s x:Operand} {B:Nat} {v:Value} {l:List Int} {w0:World} {y:Int} (hown:Own w0 B v l) (hl:l.length<=1099511627776) (hB:B<=w0.heap.size)
  (h:∀A' n' c' w',Hid (n'=l.length+1)->Own w' B (.slice A' n' c') (l++[y])->Below B w0 w'->w0.grownBy w' v.ownBlock->(Value.ownBlock (.slice A' n' c')=v.ownBlock∨ ∃g,Value.ownBlock (.slice A' n' c')=some g/\w0.heap.size<=g)->wpList Tryz.prog ops Q rest (a.put o.dst (.slice A' n' c')) w')
  (hgd:o.guard=none:=by exact rfl) (ho:o.op=.call { callee:=.builtin .append,args:=#[s,x],argTypes:=#[121,121] }:=by exact rfl)
  (hs:a.eval s=v:=by exact rfl) (hx:a.eval x=.slice (some ⟨w0.heap.size,0,none⟩) 1 1:=by exact rfl) :
  wpList Tryz.prog ops Q (o::rest) a (w0.alloc (.cells #[.int .i64 y] 3)):=by
 obtain⟨i0,hi,hz0,hz1,hz2⟩:=info_parts int_info;refine wpList_append_own_at _ hgd s x 121 ho B 3 i0 (.int .i64 0) 1 8 Tryz.underlying121 hi hz0 hz1 hz2 rfl (by omega) v l.length (l.map (Value.int .i64)) hs (hown.alloc _)
  ⟨w0.heap.size,0,none⟩ 1 1 [.int .i64 y] hx rfl (cell_one_new w0 _ _) (by intro u hu;simp at hu;subst hu;rfl) (by simp only[maxLen];omega) (by omega) (by simp;omega) ?_
 intro v' w' hown' hg _ hat;have hg0:w0.grownBy w' v.ownBlock:=(World.grownBy_alloc w0 _ v.ownBlock).trans hg;have hlt:=World.ownsRow.lt hown;obtain⟨A',c',rfl,_,_⟩:=own_slice hown';refine h A' _ c' w' rfl (by unfold Own;simpa using hown') ((Below.refl _ _).grown hg0 hB (fun k hk=>(hlt k hk).1)) hg0 ?_;rcases hat with e|e
 ·exact .inl e
 ·exact .inr ⟨_,e,by simp⟩
theorem appendZ {s x:Operand} {B:Nat} {v:Value} {l:List Int} {w0:World} {kI:Int} (k:Nat) (hkI:kI=(k:Int)) (hown:Own w0 B v l) (hl:l.length+k<=1099511627776) (hB:B<=w0.heap.size)
  (h:∀A' n' c' w',Hid (n'=l.length+k)->Own w' B (.slice A' n' c') (l++List.replicate k 0)->Below B w0 w'->w0.grownBy w' v.ownBlock->(Value.ownBlock (.slice A' n' c')=v.ownBlock∨ ∃g,Value.ownBlock (.slice A' n' c')=some g/\w0.heap.size<=g)->wpList Tryz.prog ops Q rest (a.put o.dst (.slice A' n' c')) w')
  (hgd:o.guard=none:=by exact rfl) (ho:o.op=.call { callee:=.builtin .append,args:=#[s,x],argTypes:=#[121,3] }:=by exact rfl)
  (hs:a.eval s=v:=by exact rfl) (hx:a.eval x=.int .i64 kI:=by exact rfl) :
  wpList Tryz.prog ops Q (o::rest) a w0:=by
 obtain⟨i0,hi,hz0,hz1,hz2⟩:=info_parts int_info;refine wpList_append_zeros w0 hgd s x 121 3 ho B 3 i0 (.int .i64 0) 8 .i64 .i64 Tryz.underlying121 Tryz.underlying3 hi hz0 hz1 hz2 rfl rfl v l.length (l.map (Value.int .i64)) hs hown
  kI k hx hkI (by simp only[maxLen];omega) (by omega) hB ?_
 intro v' w' hown' hg hat;have hlt:=World.ownsRow.lt hown;obtain⟨A',c',rfl,_,_⟩:=own_slice hown';refine h A' _ c' w' rfl (by unfold Own;simpa using hown') ((Below.refl _ _).grown hg hB (fun k hk=>(hlt k hk).1)) hg ?_;rcases hat with e|e
 ·exact .inl e
 ·exact .inr ⟨_,e,Nat.le_refl _⟩
theorem make0 {lo co:Operand} {kl kc:IntKind} {n:Nat} {w:World} {B:Nat} (hn:n<=1099511627776) (hB:B<=w.heap.size)
  (h:∀w',Own w' B (.slice (some ⟨w.heap.size,0,none⟩) 0 n) []->w.grownBy w' none->w.heap.size<w'.heap.size->wpList Tryz.prog ops Q rest (a.put o.dst (.slice (some ⟨w.heap.size,0,none⟩) 0 n)) w')
  (hgd:o.guard=none:=by exact rfl) (ho:o.op=Op.makeSlice 121 lo co:=by exact rfl) (hl:a.eval lo=.int kl 0:=by exact rfl) (hc:a.eval co=.int kc (n:Int):=by exact rfl) :
  wpList Tryz.prog ops Q (o::rest) a w:=by
 obtain⟨i0,hi,hz0,hz1,hz2⟩:=info_parts int_info;refine wpList_make_own w hgd lo co 121 ho B 3 i0 (.int .i64 0) 1 Tryz.underlying121 hi hz0 hz1 kl kc n n hl hc rfl (by rw[hz2];omega) (by simp only[maxLen];omega) hB ?_;intro w' hown hg;exact h w' hown hg (World.ownsRow.lt hown w.heap.size rfl).2
end
theorem Own.below {w w':World} {B C:Nat} {v:Value} {l:List Int} (h:Own w B v l) (hb:Below C w w') (hC:w.heap.size<=C):Own w' B v l:=own_below h hb hC
theorem Own.lower {w:World} {B C:Nat} {v:Value} {l:List Int} (h:Own w B v l) (hC:C<=B):Own w C v l:=own_lower h hC
theorem Own.rd {w:World} {B:Nat} {v:Value} {l:List Int} (h:Own w B v l):∃A c,v=.slice A l.length c/\l.length<=c/\c<=maxLen/\Rd w w.heap.size 1 A l.length (l.map (Value.int .i64)):=by
 obtain⟨A,c,rfl,hc,hm⟩:=own_slice h;exact⟨A,c,rfl,hc,hm,Rd.of_own h⟩
theorem rd_lit (w:World) (t:TypeId) (l:List Int):Rd (w.alloc (.cells (l.map (Value.int .i64)).toArray t)) (w.alloc (.cells (l.map (Value.int .i64)).toArray t)).heap.size 1 (some ⟨w.heap.size,0,none⟩) l.length (l.map (Value.int .i64)):=by
 refine⟨by simp,fun _=>⟨_,rfl,by simp,fun j u hu=>?_⟩⟩;rw[Addr.add_lit,Nat.zero_add];rw[World.cell?_alloc_new];simpa using hu
theorem Own.rd0 {w:World} {B n c:Nat} {A:Option Addr} {l:List Int} (h:Own w B (.slice A n c) l):Rd w w.heap.size 1 A l.length (l.map (Value.int .i64))/\n=l.length:=by
 obtain⟨A',c',e,_,_,r⟩:=h.rd;simp only[Value.slice.injEq] at e;obtain⟨rfl,rfl,rfl⟩:=e;exact⟨r,rfl⟩
theorem make1 {ops:Array Oper} {rest:List Oper} {o:Oper} {a:Act} {Q:Exit->Act->World->Prop} {lo co:Operand} {kl kc:IntKind} {n:Nat} {w:World} {B:Nat} (hn:n<=1099511627776) (hB:B<=w.heap.size)
  (h:∀w',Own w' B (.slice (some ⟨w.heap.size,0,none⟩) n n) (List.replicate n 0)->w.grownBy w' none->wpList Tryz.prog ops Q rest (a.put o.dst (.slice (some ⟨w.heap.size,0,none⟩) n n)) w')
  (hgd:o.guard=none:=by exact rfl) (ho:o.op=Op.makeSlice 121 lo co:=by exact rfl) (hl:a.eval lo=.int kl (n:Int):=by exact rfl) (hc:a.eval co=.int kc (n:Int):=by exact rfl) :
  wpList Tryz.prog ops Q (o::rest) a w:=by
 obtain⟨i0,hi,hz0,hz1,hz2⟩:=info_parts int_info;refine wpList_make_full w hgd lo co 121 ho B 3 i0 (.int .i64 0) 1 Tryz.underlying121 hi hz0 hz1 kl kc n n n hl hc rfl rfl (by rw[hz2];omega) (by simp only[maxLen];omega) hB ?_;intro w' hown hg;refine h w' ?_ hg;unfold Own;rw[List.length_replicate,List.map_replicate]
 rwa [Nat.mul_one,show(Value.int .i64 0).cells= #[.int .i64 0] from rfl,toList_madeCells_one] at hown
def InS (w:World) (A:Option Addr) (n c:Nat) (l:List Int):Prop:=Rd w w.heap.size 1 A n (l.map (Value.int .i64))/\n<=c/\c<=maxLen/\l.length=n/\ ∀z∈l,(Lit.int .i64 z).wf=true
theorem take_snoc_int (l:List Int) (k:Nat) (u:Int) (h:l[k]? =some u):l.take (k+1)=l.take k++[u]:=by
 rw[List.take_add_one,h];rfl
theorem drop_at {α:Type} (l:List α) (k:Nat) (x:α) (h:l[k]? =some x):l.drop k=x::l.drop (k+1):=by
 have hk:k<l.length:=(List.getElem?_eq_some_iff.1 h).1;rw[List.drop_eq_getElem_cons hk];rw[List.getElem?_eq_getElem hk] at h;congr 1;exact Option.some.inj h
def bv (l:List UInt8):List Value:=l.map fun c=>Value.int .u8 (c.toNat:Int)
theorem bv_length (l:List UInt8):(bv l).length=l.length:=List.length_map ..
theorem bv_append (l r:List UInt8):bv (l++r)=bv l++bv r:=List.map_append ..
theorem bv_ok (l:List UInt8):∀u∈bv l,u.oneCell'=true:=by
 intro u hu;obtain⟨_,_,rfl⟩:=List.mem_map.1 hu;rfl
theorem byte_info:(Tryz.prog.info? 5).map (fun i=>(i.zero,i.size,i.bytes))=some (some (.int .u8 0),1,1):=by kernel_rfl
def OwnB (w:World) (B:Nat) (v:Value) (l:List UInt8):Prop:=w.ownsRow B 5 1 v l.length (bv l)
section
variable {ops:Array Oper} {rest:List Oper} {o:Oper} {a:Act} {Q:Exit->Act->World->Prop}
theorem appendB {s x:Operand} {B:Nat} {v:Value} {l:List UInt8} {w0:World} {z:Int} (y:UInt8) (hz:z=(y.toNat:Int)) (hown:OwnB w0 B v l) (hl:l.length<=1099511627776) (hB:B<=w0.heap.size)
  (h:∀A' n' c' w',Hid (n'=l.length+1)->OwnB w' B (.slice A' n' c') (l++[y])->Below B w0 w'->w0.grownBy w' v.ownBlock->(Value.ownBlock (.slice A' n' c')=v.ownBlock∨ ∃g,Value.ownBlock (.slice A' n' c')=some g/\w0.heap.size<=g)->wpList Tryz.prog ops Q rest (a.put o.dst (.slice A' n' c')) w')
  (hgd:o.guard=none:=by exact rfl) (ho:o.op=.call { callee:=.builtin .append,args:=#[s,x],argTypes:=#[207,207] }:=by exact rfl)
  (hs:a.eval s=v:=by exact rfl) (hx:a.eval x=.slice (some ⟨w0.heap.size,0,none⟩) 1 1:=by exact rfl) :
  wpList Tryz.prog ops Q (o::rest) a (w0.alloc (.cells #[.int .u8 z] 5)):=by
 subst hz;obtain⟨i0,hi,hz0,hz1,hz2⟩:=info_parts byte_info;refine wpList_append_own_at _ hgd s x 207 ho B 5 i0 (.int .u8 0) 1 1 Tryz.underlying207 hi hz0 hz1 hz2 rfl (by omega) v l.length (bv l) hs (hown.alloc _)
  ⟨w0.heap.size,0,none⟩ 1 1 [.int .u8 (y.toNat:Int)] hx rfl (cell_one_new w0 _ _) (by intro u hu;simp at hu;subst hu;rfl) (by simp only[maxLen];omega) (by omega) (by simp;omega) ?_
 intro v' w' hown' hg _ hat;have hg0:w0.grownBy w' v.ownBlock:=(World.grownBy_alloc w0 _ v.ownBlock).trans hg;have hlt:=World.ownsRow.lt hown;obtain⟨A',c',rfl,_,_⟩:=own_slice hown';refine h A' _ c' w' rfl (by unfold OwnB;rw[bv_append];simpa[bv] using hown') ((Below.refl _ _).grown hg0 hB (fun k hk=>(hlt k hk).1)) hg0 ?_;rcases hat with e|e
 ·exact .inl e
 ·exact .inr ⟨_,e,by simp⟩
theorem makeB0 {lo co:Operand} {kl kc:IntKind} {n:Nat} {w:World} {B:Nat} (hn:n<=1099511627776) (hB:B<=w.heap.size)
  (h:∀w',OwnB w' B (.slice (some ⟨w.heap.size,0,none⟩) 0 n) []->w.grownBy w' none->w.heap.size<w'.heap.size->wpList Tryz.prog ops Q rest (a.put o.dst (.slice (some ⟨w.heap.size,0,none⟩) 0 n)) w')
  (hgd:o.guard=none:=by exact rfl) (ho:o.op=Op.makeSlice 207 lo co:=by exact rfl) (hl:a.eval lo=.int kl 0:=by exact rfl) (hc:a.eval co=.int kc (n:Int):=by exact rfl) :
  wpList Tryz.prog ops Q (o::rest) a w:=by
 obtain⟨i0,hi,hz0,hz1,hz2⟩:=info_parts byte_info;refine wpList_make_own w hgd lo co 207 ho B 5 i0 (.int .u8 0) 1 Tryz.underlying207 hi hz0 hz1 kl kc n n hl hc rfl (by rw[hz2];omega) (by simp only[maxLen];omega) hB ?_;intro w' hown hg;exact h w' hown hg (World.ownsRow.lt hown w.heap.size rfl).2
theorem makeB1 {lo co:Operand} {kl kc:IntKind} {n:Nat} {w:World} {B:Nat} (hn:n<=1099511627776) (hB:B<=w.heap.size)
  (h:∀w',OwnB w' B (.slice (some ⟨w.heap.size,0,none⟩) n n) (List.replicate n 0)->w.grownBy w' none->wpList Tryz.prog ops Q rest (a.put o.dst (.slice (some ⟨w.heap.size,0,none⟩) n n)) w')
  (hgd:o.guard=none:=by exact rfl) (ho:o.op=Op.makeSlice 207 lo co:=by exact rfl) (hl:a.eval lo=.int kl (n:Int):=by exact rfl) (hc:a.eval co=.int kc (n:Int):=by exact rfl) :
  wpList Tryz.prog ops Q (o::rest) a w:=by
 obtain⟨i0,hi,hz0,hz1,hz2⟩:=info_parts byte_info;refine wpList_make_full w hgd lo co 207 ho B 5 i0 (.int .u8 0) 1 Tryz.underlying207 hi hz0 hz1 kl kc n n n hl hc rfl rfl (by rw[hz2];omega) (by simp only[maxLen];omega) hB ?_;intro w' hown hg;refine h w' ?_ hg;unfold OwnB bv;rw[List.length_replicate,List.map_replicate]
 rwa [Nat.mul_one,show(Value.int .u8 0).cells= #[.int .u8 0] from rfl,toList_madeCells_one] at hown
end
theorem OwnB.below {w w':World} {B C:Nat} {v:Value} {l:List UInt8} (h:OwnB w B v l) (hb:Below C w w') (hC:w.heap.size<=C):OwnB w' B v l:=own_below h hb hC
theorem OwnB.rd {w:World} {B:Nat} {v:Value} {l:List UInt8} (h:OwnB w B v l):∃A c,v=.slice A l.length c/\l.length<=c/\c<=maxLen/\Rd w w.heap.size 1 A l.length (bv l):=by
 obtain⟨A,c,rfl,hc,hm⟩:=own_slice h;exact⟨A,c,rfl,hc,hm,Rd.of_own h⟩
theorem run_str {w:World} {A:Option Addr} {n c B:Nat} {l:List UInt8} (h:Rd w B 1 A n (bv l)) :
  (convert 207 9 (.slice A n c)).run Tryz.prog w=.ok (.string ⟨l.toArray⟩) w:=by
 have hl:l.length=n:=by have:=h.len;rw[bv_length] at this;omega
 subst hl;rcases A with _|ad
 ·have h0:l=[]:=by
   rcases l with _|⟨x,r⟩
   ·rfl
   ·obtain⟨_,e,_⟩:=h.cells (by simp)
    cases e
  subst h0;exact run_convert_bytes_nil w 207 5 Tryz.underlying207 Tryz.underlying5 0 c 9 Tryz.underlying9
 ·refine run_convert_bytes_back w 207 9 5 ad c l Tryz.underlying207 Tryz.underlying5 Tryz.underlying9 ?_
  intro j hj;obtain⟨ad',e,_,hc⟩:=h.cells (by omega);cases e
  exact hc j _ (by simp[bv,List.getElem?_eq_getElem hj])
end Go.Proofs.YtphfmgapiimliaaGreat
namespace Go.Proofs.YtphfmgapiimliaaGreat
open Go.RowKit
section
variable {w w':World} {B n c:Nat} {A:Option Addr} {l:List Int}
theorem Own.form0 (h:Own w B (.slice A n c) l) (hn:0<n):∃g,A=some ⟨g,0,none⟩/\B<=g/\g<w.heap.size:=by
 obtain⟨_,rfl⟩:=h.rd0;obtain⟨_,h2⟩:=h;rcases h2 with ⟨hv,h0⟩|⟨g,cap,cur,hv,hg,hh,_⟩
 ·omega
 ·cases hv
  exact⟨g,rfl,hg,(Array.getElem?_eq_some_iff.1 hh).1⟩
theorem Own.cell {g k:Nat} {x:Int} (h:Own w B (.slice (some ⟨g,0,none⟩) n c) l) (hk:l[k]? =some x):w.cell? ⟨g,k,none⟩=some (.int .i64 x):=by
 obtain⟨r,rfl⟩:=h.rd0;have hlt:=(List.getElem?_eq_some_iff.1 hk).1;obtain⟨ad,e,_,hc⟩:=r.cells (by omega);cases e
 have:=hc k (.int .i64 x) (by rw[List.getElem?_map,hk];rfl)
 rwa [Addr.add_lit,Nat.zero_add] at this
theorem Own.frozen {g k:Nat} (h:Own w B (.slice (some ⟨g,0,none⟩) n c) l):w.frozen? ⟨g,k,none⟩=false:=by
 obtain⟨_,h2⟩:=h;rcases h2 with ⟨hv,h0⟩|⟨g',cap,cur,hv,hg,hh,_⟩
 ·cases hv
 ·cases hv
  simp[World.frozen?,hh]
theorem Own.put {g k:Nat} (h:Own w B (.slice (some ⟨g,0,none⟩) n c) l) (x:Int):Own (w.setCell ⟨g,k,none⟩ (.int .i64 x)) B (.slice (some ⟨g,0,none⟩) n c) (l.set k x):=by
 obtain⟨_,rfl⟩:=h.rd0;have:=(World.ownsRow.stored h k (.int .i64 x)).1;unfold Own;rw[List.length_set,List.map_set];exact this
theorem Own.ge {g:Nat} (h:Own w B (.slice (some ⟨g,0,none⟩) n c) l):B<=g:=by
 obtain⟨_,h2⟩:=h;rcases h2 with ⟨hv,h0⟩|⟨g',cap,cur,hv,hg,_⟩
 ·cases hv
 ·cases hv;exact hg
theorem Own.put2 {w0:World} {g k:Nat} (h:Own w B (.slice (some ⟨g,0,none⟩) n c) l/\Below B w0 w) (x:Int):Own (w.setCell ⟨g,k,none⟩ (.int .i64 x)) B (.slice (some ⟨g,0,none⟩) n c) (l.set k x)/\Below B w0 (w.setCell ⟨g,k,none⟩ (.int .i64 x)) :=
 ⟨h.1.put x,h.2.setCell (p:=⟨g,k,none⟩) h.1.ge _⟩
theorem at_some (l:List Int) (k:Nat) (hk:k<l.length):l[k]? =some (l.getD k 0):=by
 rw[List.getD_eq_getElem?_getD,List.getElem?_eq_getElem hk];rfl
end
end Go.Proofs.YtphfmgapiimliaaGreat
namespace Go.Proofs.YtphfmgapiimliaaGreat
open Go.RowKit
def cl2 (x:Int×Int):List Value:=[.int .i64 x.1,.int .i64 x.2]
def fl2 (l:List (Int×Int)):List Value:=l.flatMap cl2
theorem length_fl2 (l:List (Int×Int)):(fl2 l).length=l.length*2:=by
 induction l with
 |nil=>rfl
 |cons x l ih =>
  have e:fl2 (x::l)=.int .i64 x.1:: .int .i64 x.2::fl2 l:=rfl;rw[e,List.length_cons,List.length_cons,List.length_cons,ih];omega
theorem fl2_append (a b:List (Int×Int)):fl2 (a++b)=fl2 a++fl2 b:=List.flatMap_append ..
theorem fl2_at (l:List (Int×Int)) (k:Nat) (x:Int×Int) (h:l[k]? =some x):(fl2 l)[2*k]? =some (.int .i64 x.1)/\(fl2 l)[2*k+1]? =some (.int .i64 x.2):=by
 induction l generalizing k with
 |nil=>simp at h
 |cons y l ih =>
  have e:fl2 (y::l)=.int .i64 y.1:: .int .i64 y.2::fl2 l:=rfl;rw[e];rcases k with _|k
  ·simp at h;subst h;exact⟨rfl,rfl⟩
  ·have:=ih k (by simpa using h)
   rw[show 2*(k+1)=2*k+1+1 by omega];simpa using this
def Own2 (w:World) (B:Nat) (t:TypeId) (v:Value) (l:List (Int×Int)):Prop:=w.ownsRow B t 2 v l.length (fl2 l)
structure Pair2 (t ts:TypeId):Prop where
 sl:Tryz.prog.underlying ts=some (.slice t)
 info:(Tryz.prog.info? t).map (fun i=>(i.zero,i.size,i.bytes))=some (some (.agg #[.int .i64 0,.int .i64 0]),2,16)
section
variable {ops:Array Oper} {rest:List Oper} {o:Oper} {a:Act} {Q:Exit->Act->World->Prop} {t ts:TypeId}
theorem append2 {s x:Operand} {B:Nat} {v:Value} {l:List (Int×Int)} {w0:World} {y z:Int} (hp:Pair2 t ts) (hown:Own2 w0 B t v l) (hl:l.length<=1099511627776) (hB:B<=w0.heap.size)
  (h:∀A' n' c' w',Hid (n'=l.length+1)->Own2 w' B t (.slice A' n' c') (l++[(y,z)])->Below B w0 w'->w0.grownBy w' v.ownBlock->wpList Tryz.prog ops Q rest (a.put o.dst (.slice A' n' c')) w')
  (hgd:o.guard=none:=by exact rfl) (ho:o.op=.call { callee:=.builtin .append,args:=#[s,x],argTypes:=#[ts,ts] }:=by exact rfl)
  (hs:a.eval s=v:=by exact rfl) (hx:a.eval x=.slice (some ⟨w0.heap.size,0,none⟩) 1 1:=by exact rfl) :
  wpList Tryz.prog ops Q (o::rest) a (w0.alloc (.cells #[.int .i64 y,.int .i64 z] t)):=by
 obtain⟨i0,hi,hz0,hz1,hz2⟩:=info_parts hp.info;refine wpList_append_own_at _ hgd s x ts ho B t i0 (.agg #[.int .i64 0,.int .i64 0]) 2 16 hp.sl hi hz0 hz1 hz2 rfl (by omega) v l.length (fl2 l) hs (hown.alloc _)
  ⟨w0.heap.size,0,none⟩ 1 1 [.int .i64 y,.int .i64 z] hx rfl ?_ (by intro u hu;simp at hu;rcases hu with rfl|rfl<;>rfl) (by simp only[maxLen];omega) (by omega) (by simp;omega) ?_
 ·intro j u hu
  rw[Addr.add_lit,Nat.zero_add,World.cell?_alloc_new];simpa using hu
 intro v' w' hown' hg _ hat;have hg0:w0.grownBy w' v.ownBlock:=(World.grownBy_alloc w0 _ v.ownBlock).trans hg;have hlt:=World.ownsRow.lt hown;obtain⟨A',c',rfl,_,_⟩:=own_slice hown';refine h A' _ c' w' rfl ?_ ((Below.refl _ _).grown hg0 hB (fun k hk=>(hlt k hk).1)) hg0;unfold Own2;rw[List.length_append,fl2_append];exact hown'
end
end Go.Proofs.YtphfmgapiimliaaGreat
