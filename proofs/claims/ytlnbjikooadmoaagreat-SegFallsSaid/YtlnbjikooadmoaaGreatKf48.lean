/- Whole structs: stored into a block, loaded from it, told as a result: no cell is opened. What a call may turn: a set of blocks that it owns, and new ones. Over any program. Maps keyed by texts, whatever their values: look-up, store, delete, len. Over any program. A disk's state, and what its calls do to it, as plain functions. No conditions. A disk in the heap. A range over a map keyed by texts: whichever entry the tape says comes out. Over any program. disk: up, op. disk: op, whatever it does. seg.all: things in turn, up to the first that tells an error. disk: a change of the directory. disk: a change is done, and kept in mind. disk: changed. file: Append, Sync, Cut. Names of files: what the functions of package name, and of its reference, compute: plain lists of bytes, no program. Names of files: each function of package name, and of its reference, tells what the plain functions of NamePlain tell; nothing that was there has turned. disk: changed, Create, New. disk: New, Create. disk: Read; the closures that turn a file. disk: used. A region that draws its order, whose operations only read and whose callees may make memory of their own: walked once. disk: Sync's closure. disk: Append, where nothing stands against it. disk: Sync, Cut, where nothing stands against them. Names of files: numbers, segments' names. head: within, Check. seg.of; a segment's file is synced, a frame is put behind it. -/
import Derived.Test.YtlnbjikooadmoaaGreatKf06
import Derived.Test.YtlnbjikooadmoaaGreatKf02
import Derived.ChangeMaps4
import Derived.Laws.AppendOwn
import Derived.Maps.RangeRun
import Derived.Test.YtlnbjikooadmoaaGreatKf03
import Derived.Maps.OwnOps
import Derived.Maps.OwnSet
import Derived.Maps.RangeWalk
import Derived.Shelf.Abstract
import Derived.Deep.LoopGhost
import Derived.Deep.RegionLaw
import Derived.Test.YtlnbjikooadmoaaGreatKf01
import Derived.Test.YtlnbjikooadmoaaGreatRows
import Derived.Deep.QuietTactic
import Derived.BigQuiet
import Derived.Deep.RegionHeld3
import Derived.Deep.RegionWith
namespace Go.Proofs.YtlnbjikooadmoaaGreat
open Go.RowKit
def Blk (w:World) (g:Nat) (cs:Array Value) (t:TypeId):Prop:=w.heap[g]? =some (.cells cs t (0,0))
section
variable {w w':World} {g:Nat} {cs:Array Value} {t:TypeId} (h:Blk w g cs t)
include h
theorem Blk.lt:g<w.heap.size:=(Array.getElem?_eq_some_iff.1 h).1
theorem Blk.cell (k:Nat) {v:Value} (hv:cs[k]? =some v):w.cell? ⟨g,k,none⟩=some v:=by rw[cell_of_row w g k _ _ (0,0) h];exact hv
theorem Blk.fz (k:Nat):w.frozen? ⟨g,k,none⟩=false:=frozen_of_row w g k _ _ h
theorem Blk.below {B:Nat} (hb:Below B w w') (hg:g<B):Blk w' g cs t:=(hb.block g hg).trans h
theorem Blk.ext (hb:Below w.heap.size w w'):Blk w' g cs t:=Blk.below h hb (Blk.lt h)
theorem Blk.alloc (o:Obj):Blk (w.alloc o) g cs t:=(Below.heap_alloc w o g (Blk.lt h)).trans h
theorem Blk.set (z:Array Value):Blk (w.setRow g z) g z t:=setRow_heap w g cs z t (0,0) h
theorem Blk.setCell {k j:Nat} (hk:g≠k) (v:Value):Blk (w.setCell ⟨k,j,none⟩ v) g cs t:=(Below.heap_setCell w ⟨k,j,none⟩ v g hk).trans h
theorem Blk.grown {row:Option Nat} (hg:w.grownBy w' row) (hr:row≠some g):Blk w' g cs t:=(hg.block g (Blk.lt h) (fun e=>hr e.symm)).trans h
theorem Blk.put (k:Nat) (v:Value):Blk (w.setCell ⟨g,k,none⟩ v) g (cs.set! k v) t:=by
 unfold Blk at *;simp[World.setCell,Array.getElem?_modify,h]
end
theorem Blk.new (w:World) (cs:Array Value) (t:TypeId):Blk (w.alloc (.cells cs t)) w.heap.size cs t:=heap_alloc_new w _
theorem ext_setRow {w w':World} {B g:Nat} (h:Below B w w') (hg:B<=g) (z:Array Value):Below B w (w'.setRow g z):=h.trans ⟨rfl,rfl,rfl,by rw[size_setRow];exact Nat.le_refl _,fun k hk=>setRow_other w' g k z (by omega)⟩
section
variable {P:Program} {ops:Array Oper} {rest:List Oper} {op:Oper} {a:Act} {w:World} {Q:Exit->Act->World->Prop}
theorem wpList_store_row (hgd:op.guard=none) (t:TypeId) (x y:Operand) (ho:op.op=.store t x y) (g:Nat) (z c:Array Value) (hx:a.eval x=.pointer (some ⟨g,0,none⟩)) (hy:a.eval y=.agg z)
  (hh:Blk w g c t) (hi:(P.info? t).map (·.size)=some z.size) (hc:c.size=z.size) (h1:z.all (·.oneCell')=true)
  (h:wpList P ops Q rest (a.put op.dst undef) (w.setRow g z)):wpList P ops Q (op::rest) a w:=by
 refine wpList_plain hgd fun _ hK=>?_
 unfold Oper.wp execOp;simp only[ho,hx,hy,Instr.storeAt,Instr.sureAddr,Sem.run_bind,Sem.run_pure,Result.andThen_ok,run_storeVar_row w g t t c z hh hi hc h1];exact hK _ _ h
theorem wpList_load_row (hgd:op.guard=none) (t:TypeId) (x:Operand) (ho:op.op=.load t x) (g:Nat) (c:Array Value) (d:TypeDesc) (hx:a.eval x=.pointer (some ⟨g,0,none⟩))
  (hh:Blk w g c t) (hu:P.underlying t=some d) (hd:(match d with|.struct _|.array _ _=>true|_=>false)=true) (hi:(P.info? t).map (·.size)=some c.size)
  (h:wpList P ops Q rest (a.put op.dst (.agg c)) w):wpList P ops Q (op::rest) a w:=by
 refine wpList_plain hgd fun _ hK=>?_
 unfold Oper.wp execOp;simp only[ho,hx,Instr.loadAt,Instr.sureAddr,Sem.run_bind,Sem.run_pure,Result.andThen_ok,run_loadVar_row w g t t c (0,0) d hh hu hd hi];exact hK _ _ h
end
theorem results_cell2 {P:Program} {fn:Func} {tmps:Array Value} {w:World} {a b:Nat} {t:TypeId} {g:Nat} {c:Array Value} {u:Value} {d:TypeDesc} (hr:fn.results= #[.cell a t,.tmp b]) (ht:tmps.getD a undef=.pointer (some ⟨g,0,none⟩)) (hb:tmps.getD b undef=u)
  (hh:Blk w g c t) (hu:P.underlying t=some d) (hd:(match d with|.struct _|.array _ _=>true|_=>false)=true) (hi:(P.info? t).map (·.size)=some c.size) :
  (results fn tmps).run P w=.ok (.tuple #[.agg c,u]) w:=by
 unfold results;rw[hr];have ht2:tmps[a]?.getD undef=.pointer (some ⟨g,0,none⟩):=by rw[<-ht];simp[Array.getD_eq_getD_getElem?]
 have hb2:tmps[b]?.getD undef=u:=by rw[<-hb];simp[Array.getD_eq_getD_getElem?]
 simp[ht2,hb2,asAddr,run_loadVar_row w g t t c (0,0) d hh hu hd hi]
theorem results_cell1 {P:Program} {fn:Func} {tmps:Array Value} {w:World} {a:Nat} {t:TypeId} {g:Nat} {c:Array Value} {d:TypeDesc} (hr:fn.results= #[.cell a t]) (ht:tmps.getD a undef=.pointer (some ⟨g,0,none⟩))
  (hh:Blk w g c t) (hu:P.underlying t=some d) (hd:(match d with|.struct _|.array _ _=>true|_=>false)=true) (hi:(P.info? t).map (·.size)=some c.size) :
  (results fn tmps).run P w=.ok (.agg c) w:=results_cell hr ht (run_loadVar_row w g t t c (0,0) d hh hu hd hi)
end Go.Proofs.YtlnbjikooadmoaaGreat
namespace Go.Proofs.YtlnbjikooadmoaaGreat
open Go.RowKit
structure Gr (S:Nat->Prop) (w:World) (S':Nat->Prop) (w':World):Prop where
 os:w'.os=w.os
 tape:w'.tape=w.tape
 output:w'.output=w.output
 size:w.heap.size<=w'.heap.size
 block:∀k,k<w.heap.size-> ¬ S k->w'.heap[k]? =w.heap[k]?
 sub:∀k,S' k->S k∨w.heap.size<=k
section
variable {S S' S'':Nat->Prop} {w w' w'':World}
theorem Gr.refl (S:Nat->Prop) (w:World):Gr S w S w:=⟨rfl,rfl,rfl,Nat.le_refl _,fun _ _ _=>rfl,fun _ h=>.inl h⟩
theorem Gr.trans (h:Gr S w S' w') (k:Gr S' w' S'' w''):Gr S w S'' w'' :=
 ⟨k.os.trans h.os,k.tape.trans h.tape,k.output.trans h.output,Nat.le_trans h.size k.size,
  fun i hi hn=>(k.block i (Nat.lt_of_lt_of_le hi h.size) fun hs=>(h.sub i hs).elim hn (by omega)).trans (h.block i hi hn),
  fun i hi=>(k.sub i hi).elim (h.sub i) fun e=>.inr (Nat.le_trans h.size e)⟩
theorem Gr.of_below (h:Below w.heap.size w w'):Gr S w S w':=⟨h.os,h.tape,h.output,h.size,fun i hi _=>h.block i hi,fun _ h=>.inl h⟩
theorem Gr.drewN (h:Gr S w S' w') (n:Nat):Gr S w S' (w'.drewN n):=⟨h.os,h.tape,h.output,h.size,h.block,h.sub⟩
theorem Gr.of_grown {row:Option Nat} (h:w.grownBy w' row) (hr:∀k,row=some k->S k):Gr S w S w' :=
 ⟨h.os,h.tape,h.output,h.size,fun i hi hn=>h.block i hi fun e=>hn (hr i e.symm),fun _ h=>.inl h⟩
theorem Gr.more (h:Gr S w S' w') {T:Nat->Prop} (ht:∀k,T k->S k∨w.heap.size<=k):Gr S w T w':=⟨h.os,h.tape,h.output,h.size,h.block,ht⟩
theorem Gr.alloc (o:Obj):Gr S w S (w.alloc o):=Gr.of_below (ext_alloc w o)
theorem Gr.set {g:Nat} (hg:S g) (z:Array Value):Gr S w S (w.setRow g z):=⟨rfl,rfl,rfl,by rw[size_setRow];exact Nat.le_refl _,fun k _ hn=>setRow_other w g k z (by rintro rfl;exact hn hg),fun _ h=>.inl h⟩
theorem Gr.setCell {g:Nat} (hg:S g) (k:Nat) (v:Value):Gr S w S (w.setCell ⟨g,k,none⟩ v) :=
 ⟨rfl,rfl,rfl,by simp,fun i _ hn=>Below.heap_setCell w ⟨g,k,none⟩ v i (by rintro rfl;exact hn hg),fun _ h=>.inl h⟩
theorem Gr.blk {b:Nat} {cs:Array Value} {t:TypeId} (h:Gr S w S' w') (hb:Blk w b cs t) (hn: ¬ S b):Blk w' b cs t:=(h.block b hb.lt hn).trans hb
theorem Gr.out (h:Gr S w S' w') {b:Nat} (hb:b<w.heap.size) (hn: ¬ S b): ¬ S' b:=fun hs=>(h.sub b hs).elim hn (by omega)
theorem Gr.below (h:Gr S w S' w') {B:Nat} (hB:B<=w.heap.size) (hS:∀k,S k->B<=k):Below B w w' :=
 ⟨h.os,h.tape,h.output,h.size,fun k hk=>h.block k (by omega) fun hs=>by have:=hS k hs;omega⟩
theorem Gr.ge (h:Gr S w S' w') {B:Nat} (hB:B<=w.heap.size) (hS:∀k,S k->B<=k):∀k,S' k->B<=k:=fun k hk=>(h.sub k hk).elim (hS k) (by omega)
theorem Gr.cell (h:Gr S w S' w') {b k:Nat} (hb:b<w.heap.size) (hn: ¬ S b):w'.cell? ⟨b,k,none⟩=w.cell? ⟨b,k,none⟩:=World.cell?_of_block (a:=⟨b,k,none⟩) (h.block b hb hn)
end
end Go.Proofs.YtlnbjikooadmoaaGreat
namespace Go.Proofs.YtlnbjikooadmoaaGreat
open Go.RowKit Go.ChangeMaps Go.MapKept
def Mp (w:World) (g:Nat) (l:List (ByteArray×Value)):Prop :=
 ∃es clock,w.heap[g]? =some (.map es clock)/\Stamped es clock/\es.toList.map (fun e=>(e.key,e.val))=l.map (fun x=>(Value.string x.1,x.2))
theorem Mp.lt {w:World} {g:Nat} {l:List (ByteArray×Value)} (h:Mp w g l):g<w.heap.size:=by
 obtain⟨es,clock,h1,-⟩:=h;exact(Array.getElem?_eq_some_iff.1 h1).1
theorem Mp.same {w w':World} {g:Nat} {l:List (ByteArray×Value)} (h:Mp w g l) (hg:w'.heap[g]? =w.heap[g]?):Mp w' g l:=by
 obtain⟨es,clock,h1,h2⟩:=h;exact⟨es,clock,hg.trans h1,h2⟩
def find1 (s:ByteArray) (l:List (ByteArray×Value)):Option Value:=(l.find? fun x=>decide (x.1=s)).map (·.2)
def put1 (s:ByteArray) (v:Value):List (ByteArray×Value)->List (ByteArray×Value)
 | []=>[(s,v)]
 |x::l=>if x.1=s then(s,v)::l else x::put1 s v l
def del1 (s:ByteArray):List (ByteArray×Value)->List (ByteArray×Value)
 | []=>[]
 |x::l=>if x.1=s then l else x::del1 s l
theorem keys_at {es:List MapEntry} {l:List (ByteArray×Value)} (h:es.map (fun e=>(e.key,e.val))=l.map (fun x=>(Value.string x.1,x.2))) (j:Nat) :
  (es[j]?).map (fun e=>(e.key,e.val))=(l[j]?).map (fun x=>(Value.string x.1,x.2)):=by
 have:=congrArg (fun l=>l[j]?) h;simpa[List.getElem?_map] using this
theorem keys_str {es:List MapEntry} {l:List (ByteArray×Value)} (h:es.map (fun e=>(e.key,e.val))=l.map (fun x=>(Value.string x.1,x.2))):∀x∈es,IsKey .string x.key:=by
 intro x hx;obtain⟨j,hj,rfl⟩:=List.getElem_of_mem hx;have:=keys_at h j;rw[List.getElem?_eq_getElem hj] at this;rcases hl:l[j]? with _|y
 ·rw[hl] at this;cases this
 ·rw[hl] at this
  simp only[Option.map_some,Option.some.injEq,Prod.mk.injEq] at this;rw[this.1];trivial
theorem find_none:∀(l:List (ByteArray×Value)) (s:ByteArray),(∀x∈l,x.1≠s)->find1 s l=none/\put1 s=put1 s/\(∀v,put1 s v l=l++[(s,v)])/\del1 s l=l
 | [],s,_=>⟨rfl,rfl,fun _=>rfl,rfl⟩
 |x::l,s,h=>by
  obtain⟨h1,-,h2,h3⟩:=find_none l s fun y hy=>h y (List.mem_cons_of_mem _ hy)
  have hx:x.1≠s:=h x (List.mem_cons_self ..);refine⟨?_,rfl,fun v=>?_,?_⟩
  ·unfold find1 at h1 ⊢
   rw[List.find?_cons_of_neg (by simpa using hx)];exact h1
  ·rw[put1,if_neg hx,h2 v];rfl
  ·rw[del1,if_neg hx,h3]
theorem find_at:∀(l:List (ByteArray×Value)) (j:Nat) (s:ByteArray) (u:Value),(l.map (·.1)).Nodup->l[j]? =some (s,u)->find1 s l=some u/\(∀v,put1 s v l=l.set j (s,v))/\del1 s l=l.eraseIdx j
 | [],j,s,u,_,h=>by simp at h
 |x::l,0,s,u,_,h=>by
  simp only[List.getElem?_cons_zero,Option.some.injEq] at h;subst h;refine⟨?_,fun v=>?_,?_⟩
  ·unfold find1;rw[List.find?_cons_of_pos (by simp)];rfl
  ·rw[put1,if_pos rfl];rfl
  ·rw[del1,if_pos rfl];rfl
 |x::l,j+1,s,u,hn,h=>by
  rw[List.map_cons,List.nodup_cons] at hn;have hl:l[j]? =some (s,u):=by simpa using h
  obtain⟨h1,h2,h3⟩:=find_at l j s u hn.2 hl;have hx:x.1≠s:=fun e=>hn.1 (e▸List.mem_map.2 ⟨(s,u),List.mem_of_getElem? hl,rfl⟩)
  refine⟨?_,fun v=>?_,?_⟩
  ·unfold find1 at h1 ⊢
   rw[List.find?_cons_of_neg (by simpa using hx)];exact h1
  ·rw[put1,if_neg hx,h2 v];rfl
  ·rw[del1,if_neg hx,h3];rfl
theorem nodup_keys {es:Array MapEntry} {clock:Nat} {l:List (ByteArray×Value)} (hs:Stamped es clock) (h:es.toList.map (fun e=>(e.key,e.val))=l.map (fun x=>(Value.string x.1,x.2))):(l.map (·.1)).Nodup:=by
 have h1:=hs.2.2;have e1:es.toList.map (·.key)=l.map (fun x=>Value.string x.1):=by
  have:=congrArg (List.map Prod.fst) h;simpa[List.map_map,Function.comp_def] using this
 rw[e1] at h1;have e2:l.map (fun x=>Value.string x.1)=(l.map (·.1)).map Value.string:=by rw[List.map_map];rfl
 rw[e2] at h1;exact(List.pairwise_map.1 h1).imp fun {a b} hab e=>hab (by rw[e])
theorem find_spec {es:Array MapEntry} {clock:Nat} {l:List (ByteArray×Value)} (hs:Stamped es clock) (h:es.toList.map (fun e=>(e.key,e.val))=l.map (fun x=>(Value.string x.1,x.2))) (s:ByteArray) :
  (Instr.findNow .string (.string s) es.toList 0=some none/\(∀x∈es.toList,x.key≠.string s)/\ ∀x∈l,x.1≠s) ∨
  ∃j e,Instr.findNow .string (.string s) es.toList 0=some (some (j,e.val))/\es.toList[j]? =some e/\e.key=.string s/\l[j]? =some (s,e.val):=by
 rcases findNow_spec (d:=.string) (k:=.string s) trivial es.toList 0 (keys_str h) with ⟨h1,h2⟩|⟨j,e,h1,h2,h3⟩
 ·refine .inl ⟨h1,h2,fun x hx e=>?_⟩
  obtain⟨j,hj,rfl⟩:=List.getElem_of_mem hx;have:=keys_at h j;rw[List.getElem?_eq_getElem hj] at this;rcases he:es.toList[j]? with _|y
  ·rw[he] at this;cases this
  ·rw[he] at this
   simp only[Option.map_some,Option.some.injEq,Prod.mk.injEq] at this;exact h2 y (List.mem_of_getElem? he) (by rw[this.1,e])
 ·refine .inr ⟨j,e,by simpa using h1,h2,h3,?_⟩
  have:=keys_at h j;rw[h2] at this;rcases hl:l[j]? with _|y
  ·rw[hl] at this;cases this
  ·rw[hl] at this
   simp only[Option.map_some,Option.some.injEq,Prod.mk.injEq] at this;have e1:s=y.1:=by
    have:=h3.symm.trans this.1
    injection this
   rw[e1,this.2]
section
variable {P:Program} {w:World} {g:Nat} {l:List (ByteArray×Value)} {t k e:TypeId}
theorem run_lookupS (ht:P.underlying t=some (.map k e)) (hk:P.underlying k=some .string) {z:Value} (hz:(P.info? e).map (·.zero)=some (some z)) (h:Mp w g l) (s:ByteArray) :
  (Instr.lookup t (.map (some g)) (.string s) true).run P w=.ok (.tuple #[(find1 s l).getD z,.bool (find1 s l).isSome]) w:=by
 obtain⟨es,clock,h1,h2,h3⟩:=h;rcases find_spec h2 h3 s with ⟨f1,f2,f3⟩|⟨j,x,f1,f2,f3,f4⟩
 ·have hf:=(find_none l s f3).1
  have hzr:(zeroValue e).run P w=.ok z w:=by
   unfold zeroValue typeInfo;rcases hi:P.info? e with _|i
   ·rw[hi] at hz;cases hz
   ·rw[hi] at hz
    simp only[Option.map_some,Option.some.injEq] at hz;simp[hi,hz]
  simp[Instr.lookup,run_underlying ht,MapKept.run_getObj_map h1,run_checkKey hk (k:=.string s) trivial,run_findKey hk f1,Result.andThen,hf,hzr]
 ·have hf:=(find_at l j s x.val (nodup_keys h2 h3) f4).1
  simp[Instr.lookup,run_underlying ht,MapKept.run_getObj_map h1,run_checkKey hk (k:=.string s) trivial,run_findKey hk f1,Result.andThen,hf]
theorem setBlock_grown (w:World) (g:Nat) (o:Obj):w.grownBy (setBlock w g o) (some g)/\(setBlock w g o).heap.size=w.heap.size:=by
 refine⟨⟨rfl,rfl,rfl,by simp[setBlock],fun k _ hk=>?_⟩,by simp[setBlock]⟩;show(w.heap.setIfInBounds g o)[k]? =_
 rw[Array.getElem?_setIfInBounds_ne (by rintro rfl;exact hk rfl)]
theorem setBlock_at {w:World} {g:Nat} (o:Obj) (h:g<w.heap.size):(setBlock w g o).heap[g]? =some o:=by
 show(w.heap.setIfInBounds g o)[g]? =_
 rw[Array.getElem?_setIfInBounds_self_of_lt h]
theorem map_modify_set {α β:Type} (f:α->β) (F:α->α) (y:β):∀(l:List α) (j:Nat),(∀x,l[j]? =some x->f (F x)=y)->(l.modify j F).map f=(l.map f).set j y
 | [],j,_=>by simp
 |x::l,0,h=>by
  have:=h x rfl;simp[this]
 |x::l,j+1,h=>by
  have:=map_modify_set f F y l j (fun x hx=>h x (by simpa using hx));simp[this]
theorem run_updateS (ht:P.underlying t=some (.map k e)) (hk:P.underlying k=some .string) (h:Mp w g l) (s:ByteArray) (v:Value) :
  ∃w',(Instr.mapUpdate t (.map (some g)) (.string s) v).run P w=.ok () w'/\Mp w' g (put1 s v l)/\w.grownBy w' (some g)/\w'.heap.size=w.heap.size:=by
 have hlt:=h.lt;obtain⟨es,clock,h1,h2,h3⟩:=h;rcases find_spec h2 h3 s with ⟨f1,f2,f3⟩|⟨j,x,f1,f2,f3,f4⟩
 ·have hp:=(find_none l s f3).2.2.1 v
  refine⟨setBlock w g (.map (es.push { key:=.string s,val:=v,born:=clock }) (clock+1)),?_,⟨_,_,setBlock_at _ hlt,stamped_push h2 f2,?_⟩,setBlock_grown w g _⟩
  ·simp[Instr.mapUpdate,run_underlying ht,MapKept.run_getObj_map h1,run_checkKey hk (k:=.string s) trivial,run_findKey hk f1,MapKept.run_setObj_map _ h1,Result.andThen,setBlock]
  ·rw[hp,Array.toList_push,List.map_append,List.map_append,h3];rfl
 ·have hp:=(find_at l j s x.val (nodup_keys h2 h3) f4).2.1 v
  have hj:es[j]? =some x:=by simpa using f2
  refine⟨setBlock w g (.map (es.modify j (fun e'=>{ e' with key:=.string s,val:=v })) clock),?_,⟨_,_,setBlock_at _ hlt,stamped_modify h2 _ _ (fun _ _=>rfl) (fun e' _ he'=>by rw[hj] at he';cases he';exact f3.symm),?_⟩,setBlock_grown w g _⟩
  ·simp[Instr.mapUpdate,run_underlying ht,MapKept.run_getObj_map h1,run_checkKey hk (k:=.string s) trivial,run_findKey hk f1,hj,f3,run_keyThatStays (d:=.string) (k:=.string s) trivial,MapKept.run_setObj_map _ h1,Result.andThen,setBlock]
  ·rw[hp,Array.toList_modify,map_modify_set (fun e:MapEntry=>(e.key,e.val)) (fun e':MapEntry=>{ e' with key:=Value.string s,val:=v }) (Value.string s,v) _ _ (fun _ _=>rfl),h3,List.map_set]
theorem run_deleteS (ht:P.underlying t=some (.map k e)) (hk:P.underlying k=some .string) (h:Mp w g l) (s:ByteArray) (ty:TypeId) (ks:TypeId) :
  ∃w',(Builtin.delete_ #[t,ks] ty #[.map (some g),.string s]).run P w=.ok (.tuple #[]) w'/\Mp w' g (del1 s l)/\w.grownBy w' (some g)/\w'.heap.size=w.heap.size:=by
 have hlt:=h.lt;obtain⟨es,clock,h1,h2,h3⟩:=h;rcases find_spec h2 h3 s with ⟨f1,f2,f3⟩|⟨j,x,f1,f2,f3,f4⟩
 ·have hp:=(find_none l s f3).2.2.2
  refine⟨setBlock w g (.map es clock),?_,⟨_,_,setBlock_at _ hlt,h2,by rw[hp];exact h3⟩,setBlock_grown w g _⟩;simp[Builtin.delete_,run_underlying ht,MapKept.run_getObj_map h1,run_checkKey hk (k:=.string s) trivial,run_findKey hk f1,MapKept.run_setObj_map _ h1,Result.andThen,setBlock]
 ·have hp:=(find_at l j s x.val (nodup_keys h2 h3) f4).2.2
  refine⟨setBlock w g (.map (es.eraseIdxIfInBounds j) clock),?_,⟨_,_,setBlock_at _ hlt,stamped_erase h2 _,?_⟩,setBlock_grown w g _⟩
  ·simp[Builtin.delete_,run_underlying ht,MapKept.run_getObj_map h1,run_checkKey hk (k:=.string s) trivial,run_findKey hk f1,MapKept.run_setObj_map _ h1,Result.andThen,setBlock]
  ·have hjl:j<es.toList.length:=(List.getElem?_eq_some_iff.1 f2).1
   have hjs:j<es.size:=by simpa using hjl
   have hsub:(es.eraseIdxIfInBounds j).toList=es.toList.eraseIdx j:=by
    unfold Array.eraseIdxIfInBounds;rw[dif_pos hjs];simp
   rw[hp,hsub,map_eraseIdx,map_eraseIdx,h3]
theorem Mp.size (h:Mp w g l):∃es clock,w.heap[g]? =some (.map es clock)/\es.size=l.length:=by
 obtain⟨es,clock,h1,h2,h3⟩:=h;refine⟨es,clock,h1,?_⟩;have:=congrArg List.length h3;simpa using this
end
section
variable {P:Program} {ops:Array Oper} {rest:List Oper} {op:Oper} {a:Act} {w:World} {Q:Exit->Act->World->Prop} {g:Nat} {l:List (ByteArray×Value)} {t k e:TypeId}
theorem wpList_lookupS (ht:P.underlying t=some (.map k e)) (hk:P.underlying k=some .string) {z:Value} (hz:(P.info? e).map (·.zero)=some (some z)) (h:Mp w g l) (s:ByteArray) (x y:Operand)
  (hh:wpList P ops Q rest (a.put op.dst (.tuple #[(find1 s l).getD z,.bool (find1 s l).isSome])) w)
  (hgd:op.guard=none:=by exact rfl) (ho:op.op=.lookup t x y true:=by exact rfl) (hx:a.eval x=.map (some g):=by exact rfl) (hy:a.eval y=.string s:=by exact rfl):wpList P ops Q (op::rest) a w:=by
 refine wpList_plain hgd fun _ hK=>?_
 unfold Oper.wp execOp;simp only[ho,hx,hy,Sem.run_bind,Result.andThen_ok,run_lookupS ht hk hz h s];exact hK _ _ hh
theorem wpList_updateS (ht:P.underlying t=some (.map k e)) (hk:P.underlying k=some .string) (h:Mp w g l) (s:ByteArray) (v:Value) (x y z:Operand)
  (hh:∀w',Mp w' g (put1 s v l)->w.grownBy w' (some g)->w'.heap.size=w.heap.size->wpList P ops Q rest (a.put op.dst undef) w')
  (hgd:op.guard=none:=by exact rfl) (ho:op.op=.mapUpdate t x y z:=by exact rfl) (hx:a.eval x=.map (some g):=by exact rfl) (hy:a.eval y=.string s:=by exact rfl) (hz:a.eval z=v:=by exact rfl):wpList P ops Q (op::rest) a w:=by
 refine wpList_plain hgd fun _ hK=>?_
 obtain⟨w',h1,h2,h3,h4⟩:=run_updateS ht hk h s v;unfold Oper.wp execOp;simp only[ho,hx,hy,hz,Sem.run_bind,Result.andThen_ok,h1];exact hK _ _ (hh w' h2 h3 h4)
theorem wpList_deleteS (ht:P.underlying t=some (.map k e)) (hk:P.underlying k=some .string) (h:Mp w g l) (s:ByteArray) (ks:TypeId) (x y:Operand)
  (hh:∀w',Mp w' g (del1 s l)->w.grownBy w' (some g)->w'.heap.size=w.heap.size->wpList P ops Q rest (a.put op.dst (.tuple #[])) w')
  (hgd:op.guard=none:=by exact rfl) (ho:op.op=.call { callee:=.builtin .delete,args:=#[x,y],argTypes:=#[t,ks] }:=by exact rfl) (hx:a.eval x=.map (some g):=by exact rfl) (hy:a.eval y=.string s:=by exact rfl):wpList P ops Q (op::rest) a w:=by
 refine wpList_plain hgd fun _ hK=>?_
 obtain⟨w',h1,h2,h3,h4⟩:=run_deleteS ht hk h s op.type ks;unfold Oper.wp execOp;simp only[ho,resolve,invoke,builtin,Sem.run_bind,Sem.run_pure,Result.andThen_ok,List.map_toArray,List.map_cons,List.map_nil,hx,hy,h1];exact hK _ _ (hh w' h2 h3 h4)
theorem wpList_lenS (ht:P.underlying t=some (.map k e)) (h:Mp w g l) (x:Operand)
  (hh:wpList P ops Q rest (a.put op.dst (goInt l.length)) w)
  (hgd:op.guard=none:=by exact rfl) (ho:op.op=.call { callee:=.builtin .len,args:=#[x],argTypes:=#[t] }:=by exact rfl) (hx:a.eval x=.map (some g):=by exact rfl):wpList P ops Q (op::rest) a w:=by
 refine wpList_plain hgd fun _ hK=>?_
 obtain⟨es,clock,h1,h2⟩:=h.size;have hr:(Builtin.len_ #[t] op.type #[.map (some g)]).run P w=.ok (goInt l.length) w:=by
  simp[Builtin.len_,run_underlying ht,MapKept.run_getObj_map h1,Result.andThen,h2]
 unfold Oper.wp execOp;simp only[ho,resolve,invoke,builtin,Sem.run_bind,Sem.run_pure,Result.andThen_ok,List.map_toArray,List.map_cons,List.map_nil,hx,hr];exact hK _ _ hh
end
end Go.Proofs.YtlnbjikooadmoaaGreat
namespace Go.Proofs.YtlnbjikooadmoaaGreat
namespace Dk
open Go.RowKit
structure DS where
 now:List (ByteArray×Nat)
 safe:List (ByteArray×Nat)
 chg:List (ByteArray×ByteArray×Option Nat)
 fl:Nat->Option (ByteArray×ByteArray)
 cap:Int
 ops:Int
 armed:Int
 off:Bool
def lk (s:ByteArray) (l:List (ByteArray×Nat)):Option Nat:=(l.find? fun x=>decide (x.1=s)).map (·.2)
def pt (s:ByteArray) (b:Nat):List (ByteArray×Nat)->List (ByteArray×Nat)
 | []=>[(s,b)]
 |x::l=>if x.1=s then(s,b)::l else x::pt s b l
def dl (s:ByteArray):List (ByteArray×Nat)->List (ByteArray×Nat)
 | []=>[]
 |x::l=>if x.1=s then l else x::dl s l
def app (c:ByteArray×ByteArray×Option Nat) (l:List (ByteArray×Nat)):List (ByteArray×Nat) :=
 match c.2.2 with
 |some b=>pt c.1 b (if c.2.1=⟨#[]⟩ then l else dl c.2.1 l)
 |none=>if c.2.1=⟨#[]⟩ then l else dl c.2.1 l
def ptr (b:Nat):Value:=.pointer (some ⟨b,0,none⟩)
def vs (l:List (ByteArray×Nat)):List (ByteArray×Value):=l.map fun x=>(x.1,ptr x.2)
theorem vs_find (s:ByteArray):∀l,find1 s (vs l)=(lk s l).map ptr
 | []=>rfl
 |x::l=>by
  have:=vs_find s l;unfold find1 lk vs at *
  by_cases h:x.1=s
  ·rw[List.map_cons,List.find?_cons_of_pos (by simpa using h),List.find?_cons_of_pos (by simpa using h)];rfl
  ·rw[List.map_cons,List.find?_cons_of_neg (by simpa using h),List.find?_cons_of_neg (by simpa using h)];exact this
theorem vs_put (s:ByteArray) (b:Nat):∀l,put1 s (ptr b) (vs l)=vs (pt s b l)
 | []=>rfl
 |x::l=>by
  have:=vs_put s b l;unfold vs at *
  by_cases h:x.1=s
  ·rw[List.map_cons,put1,if_pos h,pt,if_pos h];rfl
  ·rw[List.map_cons,put1,if_neg h,pt,if_neg h,List.map_cons,this]
theorem vs_del (s:ByteArray):∀l,del1 s (vs l)=vs (dl s l)
 | []=>rfl
 |x::l=>by
  have:=vs_del s l;unfold vs at *
  by_cases h:x.1=s
  ·rw[List.map_cons,del1,if_pos h,dl,if_pos h]
  ·rw[List.map_cons,del1,if_neg h,dl,if_neg h,List.map_cons,this]
theorem pt_mem {s:ByteArray} {b:Nat}:∀{l:List (ByteArray×Nat)} {x},x∈pt s b l->x=(s,b)∨x∈l
 | [],x,h=>by simpa[pt] using h
 |y::l,x,h=>by
  unfold pt at h;split at h
  ·rcases List.mem_cons.1 h with h|h
   ·exact .inl h
   ·exact .inr (List.mem_cons_of_mem _ h)
  ·rcases List.mem_cons.1 h with h|h
   ·exact .inr (h▸List.mem_cons_self ..)
   ·exact(pt_mem h).imp_right (List.mem_cons_of_mem _)
theorem dl_mem {s:ByteArray}:∀{l:List (ByteArray×Nat)} {x},x∈dl s l->x∈l
 | [],x,h=>h
 |y::l,x,h=>by
  unfold dl at h;split at h
  ·exact List.mem_cons_of_mem _ h
  ·rcases List.mem_cons.1 h with h|h
   ·exact h▸List.mem_cons_self ..
   ·exact List.mem_cons_of_mem _ (dl_mem h)
theorem app_mem {c:ByteArray×ByteArray×Option Nat} {l:List (ByteArray×Nat)} {x} (h:x∈app c l):c.2.2=some x.2∨x∈l:=by
 have key:∀{x},x∈(if c.2.1=⟨#[]⟩ then l else dl c.2.1 l)->x∈l:=by
  intro x h;split at h
  ·exact h
  ·exact dl_mem h
 unfold app at h;rcases hc:c.2.2 with _|b
 ·rw[hc] at h;exact .inr (key h)
 ·rw[hc] at h
  rcases pt_mem h with rfl|h
  ·exact .inl rfl
  ·exact .inr (key h)
theorem lk_cons (s:ByteArray) (x:ByteArray×Nat) (l:List (ByteArray×Nat)):lk s (x::l)=if x.1=s then some x.2 else lk s l:=by
 unfold lk;by_cases h:x.1=s
 ·rw[List.find?_cons_of_pos (by simpa using h),if_pos h];rfl
 ·rw[List.find?_cons_of_neg (by simpa using h),if_neg h]
theorem pt_len (s:ByteArray) (b:Nat):∀l:List (ByteArray×Nat),(pt s b l).length=if(lk s l).isSome then l.length else l.length+1
 | []=>rfl
 |x::l=>by
  have:=pt_len s b l;rw[pt,lk_cons];by_cases h:x.1=s
  ·rw[if_pos h,if_pos h];simp
  ·rw[if_neg h,if_neg h,List.length_cons,this,List.length_cons];split<;>rfl
theorem lk_mem {s:ByteArray} {b:Nat}:∀{l:List (ByteArray×Nat)},lk s l=some b->(s,b)∈l
 | [],h=>by cases h
 |x::l,h=>by
  unfold lk at h;by_cases hx:x.1=s
  ·rw[List.find?_cons_of_pos (by simpa using hx)] at h
   simp only[Option.map_some,Option.some.injEq] at h;rw[<-hx,<-h];exact List.mem_cons_self ..
  ·rw[List.find?_cons_of_neg (by simpa using hx)] at h
   exact List.mem_cons_of_mem _ (lk_mem (l:=l) h)
def tick (D:DS):DS:={ D with ops:=IntKind.i64.wrap (D.ops+1),armed:=max (D.armed-1) 0 }
def opS (syncs:Bool) (act:DS->DS) (D:DS):DS :=
 if D.armed=1 then { (if syncs then tick D else act (tick D)) with off:=true } else act (tick D)
def opE (D:DS):Int:=if D.armed=1 then 200 else 0
def upE (D:DS):Int:=if D.off then 200 else 0
def setF (b:Nat) (p:ByteArray×ByteArray) (D:DS):DS:={ D with fl:=fun k=>if k=b then some p else D.fl k }
def chgD (c:ByteArray×ByteArray×Option Nat) (D:DS):DS:={ D with now:=app c D.now,chg:=D.chg++[c] }
def settleD (D:DS):DS:={ D with safe:=D.now,chg:=[] }
def szs (fl:Nat->Option (ByteArray×ByteArray)):List (ByteArray×Nat)->Nat
 | []=>0
 |x::l=>((fl x.2).map (·.2.size)).getD 0+szs fl l
theorem szs_append (fl:Nat->Option (ByteArray×ByteArray)):∀a b:List (ByteArray×Nat),szs fl (a++b)=szs fl a+szs fl b
 | [],b=>by simp[szs]
 |x::a,b=>by rw[List.cons_append,szs,szs,szs_append fl a b];omega
def usedD (D:DS):Nat:=szs D.fl D.now
theorem szs_le {fl:Nat->Option (ByteArray×ByteArray)} {m:Nat} (h:∀b p,fl b=some p->p.2.size<=m):∀l:List (ByteArray×Nat),szs fl l<=l.length*m
 | []=>by simp[szs]
 |x::l=>by
  have:=szs_le h l;rw[szs,List.length_cons,Nat.succ_mul];rcases hx:fl x.2 with _|p
  ·simp only[Option.map_none,Option.getD_none];omega
  ·have:=h _ _ hx
   simp only[Option.map_some,Option.getD_some];omega
end Dk
end Go.Proofs.YtlnbjikooadmoaaGreat
namespace Go.Proofs.YtlnbjikooadmoaaGreat
namespace Dk
open Go.RowKit
def chv:Option Nat->Value
 |some b=>ptr b
 |none=>.pointer none
def ch3 (c:ByteArray×ByteArray×Option Nat):List Value:=[.string c.1,.string c.2.1,chv c.2.2]
def chl:List (ByteArray×ByteArray×Option Nat)->List Value
 | []=>[]
 |c::l=>ch3 c++chl l
theorem chl_append:∀a b,chl (a++b)=chl a++chl b
 | [],b=>rfl
 |c::a,b=>by rw[List.cons_append,chl,chl,chl_append a b,List.append_assoc]
def apps (l:List (ByteArray×ByteArray×Option Nat)) (m:List (ByteArray×Nat)):List (ByteArray×Nat):=l.foldl (fun m c=>app c m) m
def dcells (gN gS:Nat) (v:Value) (D:DS):Array Value:=#[.map (some gN),.map (some gS),v,.int .i64 D.cap,.int .i64 D.ops,.int .i64 D.armed,.bool D.off,.bool true]
structure Fit (D:DS):Prop where
 wfN:∀x∈D.now,D.fl x.2≠none
 wfS:∀x∈D.safe,D.fl x.2≠none
 wfC:∀c∈D.chg,∀b,c.2.2=some b->D.fl b≠none
 cap0:0<=D.cap
 cap1:D.cap<=10000000
 arm0:0<=D.armed
 arm1:D.armed<=9223372036854775807
 ops:IntKind.i64.wrap D.ops=D.ops
 big:∀b p,D.fl b=some p->p.1.size<=1000000/\p.2.size<=1000000
 few:∀k,(apps (D.chg.take k) D.safe).length<=200
 run:apps D.chg D.safe=D.now
theorem Fit.now_few {D:DS} (h:Fit D):D.now.length<=200:=by have:=h.few D.chg.length;rwa [List.take_length,h.run] at this
structure Dat (w:World) (S:Nat->Prop) (bd gN gS:Nat) (v:Value) (D:DS):Prop where
 box:Blk w bd (dcells gN gS v D) 75
 now:Mp w gN (vs D.now)
 safe:Mp w gS (vs D.safe)
 chg:w.ownsRow 0 105 3 v D.chg.length (chl D.chg)
 fl:∀b p,D.fl b=some p->Blk w b #[.string p.1,.string p.2] 110
 ne:gN≠gS
 sB:S bd
 sN:S gN
 sS:S gS
 sC:∀g,v.ownBlock=some g->S g
 sF:∀b p,D.fl b=some p->S b
 lt:∀b,S b->b<w.heap.size
 fit:Fit D
def DiskAt (w:World) (S:Nat->Prop) (bd:Nat) (D:DS):Prop:=∃gN gS v,Dat w S bd gN gS v D
section
variable {w w':World} {S:Nat->Prop} {bd gN gS:Nat} {v:Value} {D:DS}
theorem own_block {w w':World} {B:Nat} {e:TypeId} {n k:Nat} {v:Value} {l:List Value} (h:w.ownsRow B e n v k l) (hs:∀g,v.ownBlock=some g->w'.heap[g]? =w.heap[g]?):w'.ownsRow B e n v k l:=by
 obtain⟨h1,h2⟩:=h;refine⟨h1,?_⟩;rcases h2 with h2|⟨g,cap,cur,rfl,h3,h4,h5⟩
 ·exact .inl h2
 ·exact .inr ⟨g,cap,cur,rfl,h3,(hs g rfl).trans h4,h5⟩
theorem Dat.kept (h:Dat w S bd gN gS v D) (hs:w.heap.size<=w'.heap.size) (hb:∀k,S k->w'.heap[k]? =w.heap[k]?):Dat w' S bd gN gS v D :=
 ⟨(hb _ h.sB).trans h.box,h.now.same (hb _ h.sN),h.safe.same (hb _ h.sS),own_block h.chg fun g hg=>hb _ (h.sC g hg),fun b p hp=>(hb _ (h.sF b p hp)).trans (h.fl b p hp),h.ne,h.sB,h.sN,h.sS,h.sC,h.sF,fun b hb=>Nat.lt_of_lt_of_le (h.lt b hb) hs,h.fit⟩
theorem Dat.ext (h:Dat w S bd gN gS v D) (hb:Below w.heap.size w w'):Dat w' S bd gN gS v D:=h.kept hb.size fun k hk=>hb.block k (h.lt k hk)
theorem DiskAt.ext (h:DiskAt w S bd D) (hb:Below w.heap.size w w'):DiskAt w' S bd D:=by
 obtain⟨gN,gS,v,h⟩:=h;exact⟨gN,gS,v,h.ext hb⟩
theorem Dat.c0 (h:Dat w S bd gN gS v D):w.cell? ⟨bd,0,none⟩=some (.map (some gN)):=h.box.cell 0 rfl
theorem Dat.c1 (h:Dat w S bd gN gS v D):w.cell? ⟨bd,1,none⟩=some (.map (some gS)):=h.box.cell 1 rfl
theorem Dat.c2 (h:Dat w S bd gN gS v D):w.cell? ⟨bd,2,none⟩=some v:=h.box.cell 2 rfl
theorem Dat.c3 (h:Dat w S bd gN gS v D):w.cell? ⟨bd,3,none⟩=some (.int .i64 D.cap):=h.box.cell 3 rfl
theorem Dat.c4 (h:Dat w S bd gN gS v D):w.cell? ⟨bd,4,none⟩=some (.int .i64 D.ops):=h.box.cell 4 rfl
theorem Dat.c5 (h:Dat w S bd gN gS v D):w.cell? ⟨bd,5,none⟩=some (.int .i64 D.armed):=h.box.cell 5 rfl
theorem Dat.c6 (h:Dat w S bd gN gS v D):w.cell? ⟨bd,6,none⟩=some (.bool D.off):=h.box.cell 6 rfl
theorem Dat.c7 (h:Dat w S bd gN gS v D):w.cell? ⟨bd,7,none⟩=some (.bool true):=h.box.cell 7 rfl
theorem Dat.fz (h:Dat w S bd gN gS v D) (k:Nat):w.frozen? ⟨bd,k,none⟩=false:=h.box.fz k
theorem Dat.gt (h:Dat w S bd gN gS v D) {k:Nat} (hk:w.heap.size<=k): ¬ S k:=fun hs=>by have:=h.lt k hs;omega
theorem Dat.bN (h:Dat w S bd gN gS v D):gN≠bd:=by
 rintro rfl;obtain⟨es,c,h1,-⟩:=h.now;have:=h.box;unfold Blk at this;rw[h1] at this;cases this
theorem Dat.bS (h:Dat w S bd gN gS v D):gS≠bd:=by
 rintro rfl;obtain⟨es,c,h1,-⟩:=h.safe;have:=h.box;unfold Blk at this;rw[h1] at this;cases this
theorem Dat.bC (h:Dat w S bd gN gS v D) {g:Nat} (hg:v.ownBlock=some g):g≠bd/\g≠gN/\g≠gS/\ ∀b p,D.fl b=some p->g≠b:=by
 obtain⟨-,h2⟩:=h.chg;rcases h2 with ⟨rfl,-⟩|⟨g',cap,cur,rfl,h3,h4,h5⟩
 ·cases hg
 ·have:g'=g:=by simpa[Value.ownBlock] using hg
  subst this;refine⟨?_,?_,?_,?_⟩
  ·rintro rfl
   have:=h.box;unfold Blk at this;rw[h4] at this;simp at this
  ·rintro rfl
   obtain⟨es,c,h1,-⟩:=h.now;rw[h1] at h4;cases h4
  ·rintro rfl
   obtain⟨es,c,h1,-⟩:=h.safe;rw[h1] at h4;cases h4
  ·rintro b p hp rfl
   have:=h.fl _ p hp;unfold Blk at this;rw[h4] at this;simp at this
theorem Dat.bF (h:Dat w S bd gN gS v D) {b:Nat} {p} (hp:D.fl b=some p):b≠bd/\b≠gN/\b≠gS:=by
 have hf:=h.fl b p hp;unfold Blk at hf;refine⟨?_,?_,?_⟩
 ·rintro rfl
  have:=h.box;unfold Blk at this;rw[hf] at this;simp at this
 ·rintro rfl
  obtain⟨es,c,h1,-⟩:=h.now;rw[h1] at hf;cases hf
 ·rintro rfl
  obtain⟨es,c,h1,-⟩:=h.safe;rw[h1] at hf;cases hf
theorem Dat.turn (h:Dat w S bd gN gS v D) {D':DS} (hs:w.heap.size<=w'.heap.size) (hb:∀k,S k->k≠bd->w'.heap[k]? =w.heap[k]?) (hx:Blk w' bd (dcells gN gS v D') 75)
  (e1:D'.now=D.now) (e2:D'.safe=D.safe) (e3:D'.chg=D.chg) (e4:D'.fl=D.fl) (hf:Fit D'):Dat w' S bd gN gS v D':=by
 refine⟨hx,?_,?_,?_,?_,h.ne,h.sB,h.sN,h.sS,h.sC,?_,fun b hb=>Nat.lt_of_lt_of_le (h.lt b hb) hs,hf⟩
 ·rw[e1];exact h.now.same (hb _ h.sN h.bN)
 ·rw[e2];exact h.safe.same (hb _ h.sS h.bS)
 ·rw[e3];exact own_block h.chg fun g hg=>hb _ (h.sC g hg) (h.bC hg).1
 ·rw[e4];exact fun b p hp=>(hb _ (h.sF b p hp) (h.bF hp).1).trans (h.fl b p hp)
 ·rw[e4];exact h.sF
theorem wrap_idem (x:Int):IntKind.i64.wrap (IntKind.i64.wrap x)=IntKind.i64.wrap x:=by
 rw[IntKind.wrap_i64,IntKind.wrap_i64];omega
theorem wrap_in {x:Int} (h0: -9223372036854775808<=x) (h1:x<=9223372036854775807):IntKind.i64.wrap x=x:=by
 rw[IntKind.wrap_i64];omega
theorem Fit.tick (h:Fit D):Fit (tick D) :=
 ⟨h.wfN,h.wfS,h.wfC,h.cap0,h.cap1,by show 0<=max (D.armed-1) 0;omega,by have:=h.arm1;show max (D.armed-1) 0<=_;omega,wrap_idem _,h.big,h.few,h.run⟩
theorem Fit.off (h:Fit D):Fit { D with off:=true }:=⟨h.wfN,h.wfS,h.wfC,h.cap0,h.cap1,h.arm0,h.arm1,h.ops,h.big,h.few,h.run⟩
theorem Dat.bytes (h:Dat w S bd gN gS v D) {b:Nat} {p:ByteArray×ByteArray} (hs:w.heap.size<=w'.heap.size) (hb:∀k,S k->k≠b->w'.heap[k]? =w.heap[k]?) (h0:D.fl b≠none) (hx:Blk w' b #[.string p.1,.string p.2] 110)
  (h1:p.1.size<=1000000) (h2:p.2.size<=1000000):Dat w' S bd gN gS v (setF b p D):=by
 obtain⟨p0,hp0⟩:∃p0,D.fl b=some p0:=Option.ne_none_iff_exists'.1 h0;obtain⟨q1,q2,q3⟩:=h.bF hp0;have hfl:∀k p',(setF b p D).fl k=some p'->(k=b/\p'=p)∨(k≠b/\D.fl k=some p'):=by
  intro k p' hk;unfold setF at hk;dsimp only at hk;split at hk
  ·rename_i hkb
   exact .inl ⟨hkb,by cases hk;rfl⟩
  ·rename_i hkb
   exact .inr ⟨hkb,hk⟩
 have hn:∀k,D.fl k≠none->(setF b p D).fl k≠none:=by
  intro k hk;unfold setF;dsimp only;split
  ·simp
  ·exact hk
 refine⟨(hb _ h.sB (Ne.symm q1)).trans h.box,h.now.same (hb _ h.sN (Ne.symm q2)),h.safe.same (hb _ h.sS (Ne.symm q3)),own_block h.chg fun g hg=>hb _ (h.sC g hg) ((h.bC hg).2.2.2 b p0 hp0),?_,h.ne,h.sB,h.sN,h.sS,h.sC,?_,fun b hb=>Nat.lt_of_lt_of_le (h.lt b hb) hs,?_⟩
 ·intro k p' hk
  rcases hfl k p' hk with ⟨rfl,rfl⟩|⟨hne,hk⟩
  ·exact hx
  ·exact(hb _ (h.sF k p' hk) hne).trans (h.fl k p' hk)
 ·intro k p' hk
  rcases hfl k p' hk with ⟨rfl,rfl⟩|⟨hne,hk⟩
  ·exact h.sF k p0 hp0
  ·exact h.sF k p' hk
 ·have f:=h.fit
  refine⟨fun x hx=>hn _ (f.wfN x hx),fun x hx=>hn _ (f.wfS x hx),fun c hc b hb=>hn _ (f.wfC c hc b hb),f.cap0,f.cap1,f.arm0,f.arm1,f.ops,?_,f.few,f.run⟩;intro k p' hk;rcases hfl k p' hk with ⟨rfl,rfl⟩|⟨hne,hk⟩
  ·exact⟨h1,h2⟩
  ·exact f.big k p' hk
end
end Dk
end Go.Proofs.YtlnbjikooadmoaaGreat
namespace Go.Proofs.YtlnbjikooadmoaaGreat
open Go.RowKit Go.ChangeMaps Go.MapKept
def kvs (l:List MapEntry):List (Value×Value):=l.map fun e=>(e.key,e.val)
def svs (l:List (ByteArray×Value)):List (Value×Value):=l.map fun x=>(Value.string x.1,x.2)
def Itr (w:World) (g r:Nat) (l rest:List (ByteArray×Value)):Prop :=
 ∃es clock since c0 seen,w.heap[g]? =some (.map es clock)/\Stamped es clock/\kvs es.toList=svs l/\w.heap[r]? =some (.mapIter (some g) since seen c0)/\since<=c0/\(∀x∈es.toList,x.born<since)/\since<=clock/\kvs (leftOf es seen).toList=svs rest
theorem Itr.lt {w:World} {g r:Nat} {l rest:List (ByteArray×Value)} (h:Itr w g r l rest):r<w.heap.size/\r≠g:=by
 obtain⟨es,clock,since,c0,seen,h1,-,-,h4,-⟩:=h;refine⟨(Array.getElem?_eq_some_iff.1 h4).1,?_⟩;rintro rfl;rw[h1] at h4;cases h4
theorem Itr.same {w w':World} {g r:Nat} {l rest:List (ByteArray×Value)} (h:Itr w g r l rest) (hg:w'.heap[g]? =w.heap[g]?) (hr:w'.heap[r]? =w.heap[r]?):Itr w' g r l rest:=by
 obtain⟨es,clock,since,c0,seen,h1,h2,h3,h4,h5⟩:=h;exact⟨es,clock,since,c0,seen,hg.trans h1,h2,h3,hr.trans h4,h5⟩
theorem left_push (es:Array MapEntry) (seen:Array Nat) (b:Nat):(leftOf es (seen.push b)).toList=(leftOf es seen).toList.filter (fun e=>e.born != b):=by
 unfold leftOf;rw[Array.toList_filter,Array.toList_filter,List.filter_filter];congr 1
 funext e
 simp only[Array.contains_push,Bool.not_or];rw[Bool.and_comm];congr 1
theorem filter_one:∀(l:List MapEntry) (e:MapEntry),(l.map (·.born)).Nodup->e∈l-> ∃pre post,l=pre++e::post/\l.filter (fun x=>x.born != e.born)=pre++post
 | [],e,_,h=>by cases h
 |x::l,e,hn,h=>by
  rw[List.map_cons,List.nodup_cons] at hn;rcases List.mem_cons.1 h with rfl|h
  ·refine⟨[],l,rfl,?_⟩
   rw[List.filter_cons_of_neg (by simp),List.nil_append,List.filter_eq_self];intro y hy;rw[bne_iff_ne];intro e1;exact hn.1 (e1▸List.mem_map.2 ⟨y,hy,rfl⟩)
  ·obtain⟨pre,post,h1,h2⟩:=filter_one l e hn.2 h
   refine⟨x::pre,post,by rw[h1];rfl,?_⟩;have hx:x.born≠e.born:=fun e1=>hn.1 (e1▸List.mem_map.2 ⟨e,h,rfl⟩)
   rw[List.filter_cons_of_pos (by rw[bne_iff_ne];exact hx),h2];rfl
theorem svs_split {pre post:List (Value×Value)} {x:Value×Value} {rest:List (ByteArray×Value)} (h:pre++x::post=svs rest):∃a s v b,rest=a++(s,v)::b/\pre=svs a/\x=(Value.string s,v)/\post=svs b:=by
 unfold svs at h;obtain⟨a,c,h1,h2,h3⟩:=List.map_eq_append_iff.1 h.symm;obtain⟨y,b,h4,h5,h6⟩:=List.map_eq_cons_iff.1 h3;exact⟨a,y.1,y.2,b,by rw[h1,h4],h2.symm,h5.symm,h6.symm⟩
theorem kvs_append (a b:List MapEntry):kvs (a++b)=kvs a++kvs b:=List.map_append ..
theorem svs_append (a b:List (ByteArray×Value)):svs (a++b)=svs a++svs b:=List.map_append ..
theorem Itr.next {P:Program} {w:World} {g r:Nat} {l rest:List (ByteArray×Value)} (h:Itr w g r l rest) (ty:TypeId) :
  (rest=[]/\(Instr.next (.pointer (some ⟨r,0,none⟩)) false ty).run P w=.ok (.tuple #[.bool false]) w) ∨
  ∃a s v b w',rest=a++(s,v)::b/\(Instr.next (.pointer (some ⟨r,0,none⟩)) false ty).run P w=.ok (.tuple #[.bool true,.string s,v]) w'/\Itr w' g r l (a++b)/\w.grownBy w' (some r)/\w'.heap.size=w.heap.size/\(Instr.entry (.pointer (some ⟨r,0,none⟩))).run P w'=.ok (.tuple #[.string s,v]) w':=by
 obtain⟨hlt,hne⟩:=h.lt;obtain⟨es,clock,since,c0,seen,h1,h2,h3,h4,h5,h6,h8,h7⟩:=h;rcases run_next_at (P:=P) w ty r g since c0 seen es clock h4 h1 h6 h5 with ⟨hz,hrun⟩|⟨e,he,w1,hw1,hrun⟩
 ·left
  refine⟨?_,hrun⟩;have hl:(leftOf es seen).toList=[]:=by rw[<-List.length_eq_zero_iff];simpa using hz
  rw[hl] at h7;unfold kvs svs at h7;exact(List.map_eq_nil_iff.1 h7.symm)
 ·right
  have hsub:((leftOf es seen).toList.map (·.born)).Nodup:=by
   unfold leftOf;rw[Array.toList_filter];exact(List.filter_sublist.map _).nodup h2.2.1
  obtain⟨pre,post,hp1,hp2⟩:=filter_one _ e hsub he;rw[hp1,kvs_append] at h7;obtain⟨a,s,v,b,q1,q2,q3,q4⟩:=svs_split (x:=(e.key,e.val)) (post:=kvs post) h7;simp only[Prod.mk.injEq] at q3;have hsame:w1.heap=w.heap:=by rcases hw1 with rfl|rfl<;>rfl
  have hos:w1.os=w.os/\w1.tape=w.tape/\w1.output=w.output:=by rcases hw1 with rfl|rfl<;>exact⟨rfl,rfl,rfl⟩
  obtain⟨g1,g2⟩:=setBlock_grown w1 r (.mapIter (some g) since (seen.push e.born) clock);have hlt1:r<w1.heap.size:=by rw[hsame];exact hlt
  have hgr:w.grownBy (setBlock w1 r (.mapIter (some g) since (seen.push e.born) clock)) (some r) :=
   ⟨g1.os.trans hos.1,g1.tape.trans hos.2.1,g1.output.trans hos.2.2,by rw[g2,hsame];exact Nat.le_refl _,fun k hk hn=>by rw[g1.block k (by rw[hsame];exact hk) hn,hsame]⟩
  have hb':(setBlock w1 r (.mapIter (some g) since (seen.push e.born) clock)).heap[g]? =some (.map es clock):=by
   rw[hgr.block g (Array.getElem?_eq_some_iff.1 h1).1 (by intro e2;cases e2;exact hne rfl)];exact h1
  refine⟨a,s,v,b,_,q1,by rw[hrun,q3.1,q3.2],⟨es,clock,since,clock,seen.push e.born,hb',h2,h3,setBlock_at _ hlt1,h8,h6,h8,?_⟩,hgr,by rw[g2,hsame],?_⟩
  rotate_left
  ·rw[run_entry_at _ r g since seen es clock e (setBlock_at _ hlt1) hb' (mem_left he).1 h2.2.1,q3.1,q3.2]
  ·rw[left_push,hp2,kvs_append,svs_append,q2,q4]
theorem Mp.itr {w:World} {g:Nat} {l:List (ByteArray×Value)} (h:Mp w g l):∃clock,Itr (w.alloc (.mapIter (some g) clock #[] clock)) g w.heap.size l l/\ ∀(P:Program) (t:TypeId) (k e:TypeId),P.underlying t=some (.map k e) ->
  (Instr.range t (.map (some g))).run P w=.ok (.pointer (some ⟨w.heap.size,0,none⟩)) (w.alloc (.mapIter (some g) clock #[] clock)):=by
 have hlt:=h.lt;obtain⟨es,clock,h1,h2,h3⟩:=h;refine⟨clock,⟨es,clock,clock,clock,#[],?_,h2,h3,heap_alloc_new w _,Nat.le_refl _,h2.1,Nat.le_refl _,?_⟩,fun P t k e ht=>?_⟩
 ·exact(Below.heap_alloc w _ g hlt).trans h1
 ·unfold leftOf
  rw[Array.filter_eq_self.2 (by simp)];exact h3
 ·simp[Instr.range,run_underlying ht,MapKept.run_getObj_map h1,Result.andThen]
section
variable {P:Program} {ops:Array Oper} {rest:List Oper} {op:Oper} {a:Act} {w:World} {Q:Exit->Act->World->Prop} {g r:Nat} {l lf:List (ByteArray×Value)} {t k e:TypeId}
theorem wpList_rangeS (ht:P.underlying t=some (.map k e)) (h:Mp w g l) (x:Operand)
  (hh:∀w',Itr w' g w.heap.size l l->Below w.heap.size w w'->w'.heap.size=w.heap.size+1->wpList P ops Q rest (a.put op.dst (.pointer (some ⟨w.heap.size,0,none⟩))) w')
  (hgd:op.guard=none:=by exact rfl) (ho:op.op=.range t x:=by exact rfl) (hx:a.eval x=.map (some g):=by exact rfl):wpList P ops Q (op::rest) a w:=by
 refine wpList_plain hgd fun _ hK=>?_
 obtain⟨clock,h1,h2⟩:=h.itr;unfold Oper.wp execOp;simp only[ho,hx,Sem.run_bind,Result.andThen_ok,h2 P t k e ht];exact hK _ _ (hh _ h1 (ext_alloc w _) (by simp))
theorem wpList_nextS (h:Itr w g r l lf) (x:Operand)
  (h0:lf=[]->wpList P ops Q rest (a.put op.dst (.tuple #[.bool false])) w)
  (h1:∀c s v b w',lf=c++(s,v)::b->Itr w' g r l (c++b)->w.grownBy w' (some r)->w'.heap.size=w.heap.size->(Instr.entry (.pointer (some ⟨r,0,none⟩))).run P w'=.ok (.tuple #[.string s,v]) w'->wpList P ops Q rest (a.put op.dst (.tuple #[.bool true,.string s,v])) w')
  (hgd:op.guard=none:=by exact rfl) (ho:op.op=.next x false:=by exact rfl) (hx:a.eval x=.pointer (some ⟨r,0,none⟩):=by exact rfl):wpList P ops Q (op::rest) a w:=by
 refine wpList_plain hgd fun _ hK=>?_
 rcases h.next (P:=P) op.type with ⟨hz,hrun⟩|⟨c,s,v,b,w',q1,q2,q3,q4,q5,q6⟩
 ·unfold Oper.wp execOp
  simp only[ho,hx,Sem.run_bind,Result.andThen_ok,hrun];exact hK _ _ (h0 hz)
 ·unfold Oper.wp execOp
  simp only[ho,hx,Sem.run_bind,Result.andThen_ok,q2];exact hK _ _ (h1 c s v b w' q1 q3 q4 q5 q6)
theorem wpList_nextS0 (h:Itr w g r l []) (x:Operand) (h0:wpList P ops Q rest (a.put op.dst (.tuple #[.bool false])) w)
  (hgd:op.guard=none:=by exact rfl) (ho:op.op=.next x false:=by exact rfl) (hx:a.eval x=.pointer (some ⟨r,0,none⟩):=by exact rfl):wpList P ops Q (op::rest) a w :=
 wpList_nextS h x (fun _=>h0) (fun _ _ _ _ _ e=>by simp at e) hgd ho hx
theorem wpList_nextS1 (h:Itr w g r l lf) (hne:lf≠ []) (x:Operand)
  (h1:∀c s v b w',lf=c++(s,v)::b->Itr w' g r l (c++b)->w.grownBy w' (some r)->w'.heap.size=w.heap.size->(Instr.entry (.pointer (some ⟨r,0,none⟩))).run P w'=.ok (.tuple #[.string s,v]) w'->wpList P ops Q rest (a.put op.dst (.tuple #[.bool true,.string s,v])) w')
  (hgd:op.guard=none:=by exact rfl) (ho:op.op=.next x false:=by exact rfl) (hx:a.eval x=.pointer (some ⟨r,0,none⟩):=by exact rfl):wpList P ops Q (op::rest) a w :=
 wpList_nextS h x (fun e=>absurd e hne) h1 hgd ho hx
end
end Go.Proofs.YtlnbjikooadmoaaGreat
namespace Go.Proofs.YtlnbjikooadmoaaGreat
namespace Dk
open Go.RowKit
section
variable {w w':World} {S:Nat->Prop} {bd gN gS:Nat} {v:Value} {D:DS}
set_option maxHeartbeats 1600000 in
theorem up_any (h:DiskAt w S bd D):Calls Tryz.prog 50 #[.pointer (some ⟨bd,0,none⟩)] w fun e w'=>e=.returned (.int .i64 (upE D))/\w=w':=by
 obtain⟨gN,gS,v,h⟩:=h;have c6:=h.c6;have c7:=h.c7;unfold upE;rcases ho:D.off with _|_
 all_goals
  rw[ho] at c6;clear h ho
  go_enter Tryz.func50, Tryz.ntmps50
  go_wp2_with fail
  go_ret
  exact⟨rfl,rfl⟩
def findP (D:DS) (s:ByteArray):Value×Int:=if D.off then(.pointer none,200) else match lk s D.now with
 |none=>(.pointer none,201)
 |some b=>(ptr b,0)
theorem ptr_zero:(Tryz.prog.info? 103).map (·.zero)=some (some (.pointer none)):=by kernel_rfl
set_option maxHeartbeats 1600000 in
theorem find_any (h:DiskAt w S bd D) (s:ByteArray):Calls Tryz.prog 73 #[.pointer (some ⟨bd,0,none⟩),.string s] w fun e w'=>e=.returned (.tuple #[(findP D s).1,.int .i64 (findP D s).2])/\w=w':=by
 have hU:=up_any h;obtain⟨gN,gS,v,h⟩:=h;have c0:=h.c0;have HM:=Lib.hid h.now;have HF:=Lib.hid (vs_find s D.now);unfold findP;unfold upE at hU;rcases ho:D.off with _|_
 ·rw[ho] at hU
  simp only[Bool.false_eq_true,if_false] at hU ⊢;rcases hl:lk s D.now with _|b
  all_goals
   rw[hl] at HF;clear h ho hl
   go_enter Tryz.func73, Tryz.ntmps73
   go_wp2_with (first
    |(go_at_call 50;refine hU.mono ?_;rintro e1 w1 ⟨rfl,rfl⟩)
    |(at_lookup;refine wpList_lookupS Tryz.underlying72 Tryz.underlying9 ptr_zero HM.out s _ _ ?_;rw[HF.out]))
   go_ret2
   exact⟨rfl,rfl⟩
 ·rw[ho] at hU
  simp only[if_true] at hU ⊢;clear h ho
  go_enter Tryz.func73, Tryz.ntmps73
  go_wp2_with (first
    |(go_at_call 50;refine hU.mono ?_;rintro e1 w1 ⟨rfl,rfl⟩))
  go_ret2
  exact⟨rfl,rfl⟩
end
end Dk
end Go.Proofs.YtlnbjikooadmoaaGreat
namespace Go.Proofs.YtlnbjikooadmoaaGreat
namespace Dk
open Go.RowKit
section
variable {w w':World} {S:Nat->Prop} {bd gN gS:Nat} {v:Value} {D:DS}
theorem Dat.setTick (h:Dat w S bd gN gS v D) (x:Int) (hx:x=max (D.armed-1) 0):Dat ((w.setCell ⟨bd,4,none⟩ (.int .i64 (IntKind.i64.wrap (D.ops+1)))).setCell ⟨bd,5,none⟩ (.int .i64 x)) S bd gN gS v (tick D):=by
 subst hx;refine h.turn (by simp) (fun k _ hk=>?_) ?_ rfl rfl rfl rfl h.fit.tick
 ·rw[Below.heap_setCell _ ⟨bd,5,none⟩ _ k hk,Below.heap_setCell _ ⟨bd,4,none⟩ _ k hk]
 ·exact(h.box.put 4 _).put 5 _
theorem Dat.setOff (h:Dat w S bd gN gS v D):Dat (w.setCell ⟨bd,6,none⟩ (.bool true)) S bd gN gS v { D with off:=true }:=by
 refine h.turn (by simp) (fun k _ hk=>?_) ?_ rfl rfl rfl rfl h.fit.off
 ·rw[Below.heap_setCell _ ⟨bd,6,none⟩ _ k hk]
 ·exact h.box.put 6 _
set_option maxHeartbeats 3200000 in
set_option maxRecDepth 100000 in
theorem op_dat (syncs:Bool) (fid:FuncId) (first caps:Array Value) (act:DS->DS) (h:Dat w S bd gN gS v D) (hen:∀args w,(callFunc fid args).run Tryz.prog w=.ok (.enter fid args) w)
  (hdo:∀w1,Dat w1 S bd gN gS v (tick D)->Gr S w S w1->Calls Tryz.prog fid (first++caps) w1 fun e w2=>e=.returned (.tuple #[])/\ ∃S2,DiskAt w2 S2 bd (act (tick D))/\Gr S w1 S2 w2) :
  Calls Tryz.prog 51 #[.pointer (some ⟨bd,0,none⟩),.bool syncs,.func (.func fid) first caps] w fun e w'=>e=.returned (.int .i64 (opE D))/\ ∃S',DiskAt w' S' bd (opS syncs act D)/\Gr S w S' w':=by
 have c4:=h.c4;have c5:=h.c5;have c6:=h.c6;have f4:=h.fz 4;have f5:=h.fz 5;have f6:=h.fz 6;have sB:=h.sB;have HT:=Lib.hid (fun x (hx:x=max (D.armed-1) 0)=>show Dat ((w.setCell ⟨bd,4,none⟩ (.int .i64 (wrap64 (D.ops+1)))).setCell ⟨bd,5,none⟩ (.int .i64 x)) S bd gN gS v (tick D) from by have:=h.setTick x hx;rwa [show IntKind.i64.wrap (D.ops+1)=wrap64 (D.ops+1) from by unfold wrap64;exact IntKind.wrap_i64 _] at this);have HG:=Lib.hid (show ∀x,Gr S w S ((w.setCell ⟨bd,4,none⟩ (.int .i64 (wrap64 (D.ops+1)))).setCell ⟨bd,5,none⟩ x) from fun x=>(Gr.setCell h.sB 4 _).trans (Gr.setCell h.sB 5 _));have hr:=h.fit.arm0;have hr1:=h.fit.arm1;clear h;unfold opE opS;generalize tick D=T at *
 generalize D.ops=O at *
 generalize D.armed=A at *
 generalize D.off=F at *
 by_cases ha:A=1
 ·subst ha
  simp only[if_true];rcases syncs with _|_
  ·simp only[Bool.false_eq_true,if_false]
   go_enter Tryz.func51, Tryz.ntmps51
   go_wp2_with (go_at_fn fid;refine(hdo _ (HT.out 0 (by omega)) (HG.out _)).mono ?_;rintro e1 w1 ⟨rfl,S2,⟨gN2,gS2,v2,hD2⟩,hG2⟩;have c62:=hD2.c6;have f62:=hD2.fz 6;have HD2:=Lib.hid hD2;have HG2:=Lib.hid hG2;clear hD2 hG2)
   go_ret
   exact⟨rfl,S2,⟨gN2,gS2,v2,HD2.out.setOff⟩,((HG.out _).trans HG2.out).trans (Gr.setCell HD2.out.sB 6 _)⟩
  ·go_enter Tryz.func51, Tryz.ntmps51
   go_wp2_with fail
   go_ret
   exact⟨rfl,S,⟨gN,gS,v,(HT.out 0 (by omega)).setOff⟩,(HG.out _).trans (Gr.setCell sB 6 _)⟩
 ·simp only[if_neg ha]
  have hA:A=0∨2<=A:=by omega
  have tt:(A==1)=false:=by rw[beq_eq_false_iff_ne];exact ha
  rcases hA with rfl|hA
  all_goals
   go_enter Tryz.func51, Tryz.ntmps51
   go_wp2_with (go_at_fn fid;refine(hdo _ (HT.out _ (by first|omega|(simp only[wrap64];omega))) (HG.out _)).mono ?_;rintro e1 w1 ⟨rfl,S2,hD2,hG2⟩;have HD2:=Lib.hid hD2;have HG2:=Lib.hid hG2;clear hD2 hG2)
   go_ret
   exact⟨rfl,S2,HD2.out,(HG.out _).trans HG2.out⟩
theorem op_any (syncs:Bool) (fid:FuncId) (first caps:Array Value) (act:DS->DS) (h:DiskAt w S bd D) (hen:∀args w,(callFunc fid args).run Tryz.prog w=.ok (.enter fid args) w)
  (hdo:∀w1,DiskAt w1 S bd (tick D)->Gr S w S w1->Calls Tryz.prog fid (first++caps) w1 fun e w2=>e=.returned (.tuple #[])/\ ∃S2,DiskAt w2 S2 bd (act (tick D))/\Gr S w1 S2 w2) :
  Calls Tryz.prog 51 #[.pointer (some ⟨bd,0,none⟩),.bool syncs,.func (.func fid) first caps] w fun e w'=>e=.returned (.int .i64 (opE D))/\ ∃S',DiskAt w' S' bd (opS syncs act D)/\Gr S w S' w':=by
 obtain⟨gN,gS,v,h⟩:=h;exact op_dat syncs fid first caps act h hen fun w1 h1=>hdo w1 ⟨gN,gS,v,h1⟩
end
end Dk
end Go.Proofs.YtlnbjikooadmoaaGreat
namespace Go.Proofs.YtlnbjikooadmoaaGreat
namespace Dk
open Go.RowKit
def fv (f:FuncId×Array Value×Array Value):Value:=.func (.func f.1) f.2.1 f.2.2
set_option maxHeartbeats 3200000 in
set_option maxRecDepth 100000 in
theorem all_any (fs:List (FuncId×Array Value×Array Value)) (A:Option Addr) (n c:Nat) (w:World) (J:Nat->World->Prop) (F:Int->World->Prop) (hn:n<=1000)
  (hrd:∀k wx,J k wx->Rd wx wx.heap.size 1 A n (fs.map fv)) (h0:J 0 w) (hen:∀f∈fs,∀args w,(callFunc f.1 args).run Tryz.prog w=.ok (.enter f.1 args) w)
  (hstep:∀k f,fs[k]? =some f-> ∀wx,J k wx->Calls Tryz.prog f.1 (f.2.1++f.2.2) wx fun e w'=>∃x,e=.returned (.int .i64 x)/\((x=0/\J (k+1) w')∨(x≠0/\F x w'))) :
  Calls Tryz.prog 47 #[.slice A n c] w fun e w'=>∃x,e=.returned (.int .i64 x)/\((x=0/\J n w')∨(x≠0/\F x w')):=by
 have HR:=Lib.hid hrd;have HS:=Lib.hid hstep;have HE:=Lib.hid hen;have H0:=Lib.hid h0;clear hrd hstep hen h0
 go_enter Tryz.func47, Tryz.ntmps47
 go_wp2_with fail
 go_loopw [8] (fun v wr=>∃k:Nat,v=.int .i64 k/\k<=n/\Hid (J k wr)) (fun v _=>n-(intOf v).toNat)
 case atStart=>exact⟨0,by go_num,by omega,H0.out⟩
 case round =>
  obtain⟨k,rfl,hk,HX⟩:=hrel;by_cases hkn:k<n
  ·obtain⟨ad,u,hA,hbk,hx,hc⟩:=(HR.out k wr HX.out).at1 hkn
   obtain⟨f,hf,rfl⟩:∃f,fs[k]? =some f/\fv f=u:=by
    rw[List.getElem?_map] at hx;rcases hf:fs[k]? with _|f
    ·rw[hf] at hx;cases hx
    ·rw[hf] at hx
     exact⟨f,rfl,by simpa using hx⟩
   have hen2:=HE.out f (List.mem_of_getElem? hf);have HC:=Lib.hid (HS.out k f hf wr HX.out);obtain⟨fid,first,caps⟩:=f;unfold fv at hc;dsimp only at hc hen2 HC;subst hA;clear hx hf hbk;go_wp2_with (go_at_fn fid;refine HC.out.mono ?_;rintro e1 w1 ⟨x,rfl,⟨rfl,hJ⟩|⟨hx0,hJ⟩⟩<;>have HJ:=Lib.hid hJ<;>clear hJ<;>try (have hb:(x != 0)=true:=(by rw[bne_iff_ne];exact hx0)))
   ·go_roundw
    ·exact⟨k+1,by go_num,by omega,HJ.out⟩
    ·simp[intOf];omega
   ·go_ret
    exact⟨x,rfl,.inr ⟨hx0,HJ.out⟩⟩
  ·have e:k=n:=by omega
   subst e;go_wp2_with fail
   go_ret
   exact⟨0,rfl,.inl ⟨rfl,HX.out⟩⟩
end Dk
end Go.Proofs.YtlnbjikooadmoaaGreat
namespace Go.Proofs.YtlnbjikooadmoaaGreat
namespace Dk
open Go.RowKit
theorem chg_info:(Tryz.prog.info? 105).map (fun i=>(i.zero,i.size,i.bytes))=some (some (.agg #[.string ⟨#[]⟩,.string ⟨#[]⟩,.pointer none]),3,40):=by kernel_rfl
def cagg (c:ByteArray×ByteArray×Option Nat):Value:=.agg #[.string c.1,.string c.2.1,chv c.2.2]
section
variable {w w':World} {S:Nat->Prop} {bd gN gS:Nat} {v:Value} {D:DS}
set_option maxHeartbeats 1600000 in
set_option maxRecDepth 100000 in
theorem apply_any {g:Nat} {l:List (ByteArray×Nat)} (hm:Mp w g (vs l)) (c:ByteArray×ByteArray×Option Nat) :
  Calls Tryz.prog 55 #[.map (some g),cagg c] w fun e w'=>e=.returned (.tuple #[])/\Mp w' g (vs (app c l))/\w.grownBy w' (some g):=by
 obtain⟨to,fr,f⟩:=c;have hlt:=hm.lt;have HM:=Lib.hid (show ∀o,Mp (w.alloc o) g (vs l) from fun o=>hm.same (Below.heap_alloc w o g hlt));have HG:=Lib.hid (show ∀o,w.grownBy (w.alloc o) (some g) from fun o=>World.grownBy_alloc w o (some g));unfold cagg chv app;clear hm;by_cases hf:fr=⟨#[]⟩
 ·subst hf
  simp only[if_true];rcases f with _|b
  ·go_enter Tryz.func55, Tryz.ntmps55
   go_wp2_with fail
   go_end0
   exact⟨rfl,HM.out _,HG.out _⟩
  ·have HV:=Lib.hid (vs_put to b l)
   unfold ptr at *
   go_enter Tryz.func55, Tryz.ntmps55
   go_wp2_with (at_mapUpdate;refine wpList_updateS Tryz.underlying72 Tryz.underlying9 (HM.out _) to (.pointer (some ⟨b,0,none⟩)) _ _ _ ?_;intro w2 hm2 hg2 hs2;rw[HV.out] at hm2;have HX:=Lib.hid (And.intro hm2 hg2);clear hm2 hg2 hs2)
   go_end0
   exact⟨rfl,HX.out.1,(HG.out _).trans HX.out.2⟩
 ·simp only[if_neg hf]
  have HD:=Lib.hid (vs_del fr l);have hfe:fr.toList.isEmpty=false:=by
   rw[<-decide_eq_emptyBytes];exact decide_eq_false hf
  have hne:(some g:Option Nat)≠some w.heap.size:=by intro e;cases e;omega
  rcases f with _|b
  ·have HB:=Lib.hid (fun w2 hg=>(Blk.new w #[.string to,.string fr,.pointer none] 105).grown (w':=w2) (row:=some g) hg hne)
   go_enter Tryz.func55, Tryz.ntmps55
   go_wp2_with (at_delete;refine wpList_deleteS Tryz.underlying72 Tryz.underlying9 (HM.out _) fr _ _ _ ?_;intro w2 hm2 hg2 hs2;rw[HD.out] at hm2;have k2:=(HB.out w2 hg2).cell 2 (v:=.pointer none) rfl;have HX:=Lib.hid (And.intro hm2 hg2);clear hm2 hg2 hs2)
   go_end0
   exact⟨rfl,HX.out.1,(HG.out _).trans HX.out.2⟩
  ·have HV:=Lib.hid (vs_put to b (dl fr l))
   unfold ptr at *
   have HB:=Lib.hid (fun w2 hg=>(Blk.new w #[.string to,.string fr,.pointer (some ⟨b,0,none⟩)] 105).grown (w':=w2) (row:=some g) hg hne)
   go_enter Tryz.func55, Tryz.ntmps55
   go_wp2_with (first
    |(at_delete;refine wpList_deleteS Tryz.underlying72 Tryz.underlying9 (HM.out _) fr _ _ _ ?_;intro w2 hm2 hg2 hs2;rw[HD.out] at hm2;have k2:=(HB.out w2 hg2).cell 2 (v:=.pointer (some ⟨b,0,none⟩)) rfl;have k0:=(HB.out w2 hg2).cell 0 (v:=.string to) rfl;have HX:=Lib.hid (And.intro hm2 hg2);clear hm2 hg2 hs2)
    |(at_mapUpdate;refine wpList_updateS Tryz.underlying72 Tryz.underlying9 HX.out.1 to (.pointer (some ⟨b,0,none⟩)) _ _ _ ?_;intro w3 hm3 hg3 hs3;rw[HV.out] at hm3;have HY:=Lib.hid (And.intro hm3 hg3);clear hm3 hg3 hs3))
   go_end0
   exact⟨rfl,HY.out.1,((HG.out _).trans HX.out.2).trans HY.out.2⟩
end
end Dk
end Go.Proofs.YtlnbjikooadmoaaGreat
namespace Go.Proofs.YtlnbjikooadmoaaGreat
namespace Dk
open Go.RowKit
section
variable {w w':World} {S:Nat->Prop} {bd gN gS:Nat} {v:Value} {D:DS}
theorem ch3_one (c:ByteArray×ByteArray×Option Nat):∀u∈ch3 c,u.oneCell'=true:=by
 obtain⟨a,b,f⟩:=c;intro u hu;unfold ch3 at hu;simp only[List.mem_cons,List.not_mem_nil,or_false] at hu;rcases hu with rfl|rfl|rfl
 ·rfl
 ·rfl
 ·rcases f with _|f<;>rfl
theorem step_append_chg {ops:Array Oper} {o:Oper} {a:Act} {K:Act->World->Prop} {Q:Exit->Act->World->Prop} {E:Prop} {w0:World} {v:Value} {l:List (ByteArray×ByteArray×Option Nat)} (s x:Operand) (c:ByteArray×ByteArray×Option Nat)
  (hgd:o.guard=none) (ho:o.op=.call { callee:=.builtin .append,args:=#[s,x],argTypes:=#[73,73] })
  (hown:w0.ownsRow 0 105 3 v l.length (chl l)) (hl:l.length<=1000000) (hs:a.eval s=v) (hx:a.eval x=.slice (some ⟨w0.heap.size,0,none⟩) 1 1)
  (h:∀g cap w',w'.ownsRow 0 105 3 (.slice (some ⟨g,0,none⟩) (l.length+1) cap) (l.length+1) (chl (l++[c]))->w0.grownBy w' v.ownBlock->(v.ownBlock=some g∨w0.heap.size<=g)->K (a.put o.dst (.slice (some ⟨g,0,none⟩) (l.length+1) cap)) w') :
  if Region.wanted o (yielded ops a.tmps)=true then Oper.wp Tryz.prog o a ((w0.alloc (.cells #[.string c.1,.string c.2.1,chv c.2.2] 105)).drew) K Q else E:=by
 obtain⟨i0,hi,hz0,hz1,hz2⟩:=info_parts chg_info;refine step_append_lies ((w0.alloc (.cells #[.string c.1,.string c.2.1,chv c.2.2] 105)).drew) hgd s x 73 ho 0 105 i0 (.agg #[.string ⟨#[]⟩,.string ⟨#[]⟩,.pointer none]) 3 40 Tryz.underlying73 hi hz0 hz1 hz2 rfl (by omega) v l.length (chl l) hs (World.ownsRow.alloc hown _)
  ⟨w0.heap.size,0,none⟩ 1 1 (ch3 c) hx rfl ?_ (ch3_one c) (by omega) (by simp only[maxLen];omega) (by omega) (Nat.zero_le _) _ rfl ?_
 ·intro j u hu
  rw[Addr.add_lit,Nat.zero_add];show(w0.alloc _).cell? _=_
  rw[World.cell?_alloc_new];simpa[ch3] using hu
 have hg0:w0.grownBy (w0.alloc (.cells #[.string c.1,.string c.2.1,chv c.2.2] 105)).drew v.ownBlock:=have h:=World.grownBy_alloc w0 (.cells #[.string c.1,.string c.2.1,chv c.2.2] 105) v.ownBlock;⟨h.os,h.tape,h.output,h.size,h.block⟩;intro g cap w' hown' hg hat hlt;refine h g cap w' ?_ (hg0.trans hg) ?_
 ·rw[chl_append,show chl [c]=ch3 c from List.append_nil _];exact hown'
 ·rcases hat with e|e
  ·exact .inl e
  ·exact .inr (by rw[e];simp)
theorem Dat.change (h:Dat w S bd gN gS v D) (c:ByteArray×ByteArray×Option Nat) (hf:∀b,c.2.2=some b->D.fl b≠none) (hn:(app c D.now).length<=200) {w2 w3:World} {g cap:Nat}
  (hm:Mp w2 gN (vs (app c D.now))) (hg:w.grownBy w2 (some gN)) (hown:w3.ownsRow 0 105 3 (.slice (some ⟨g,0,none⟩) (D.chg.length+1) cap) (D.chg.length+1) (chl (D.chg++[c]))) (hg3:w2.grownBy w3 v.ownBlock) (hat:v.ownBlock=some g∨w2.heap.size<=g) :
  Dat (w3.setCell ⟨bd,2,none⟩ (.slice (some ⟨g,0,none⟩) (D.chg.length+1) cap)) (fun k=>S k∨k=g) bd gN gS (.slice (some ⟨g,0,none⟩) (D.chg.length+1) cap) (chgD c D) /\
  Gr S w (fun k=>S k∨k=g) (w3.setCell ⟨bd,2,none⟩ (.slice (some ⟨g,0,none⟩) (D.chg.length+1) cap)):=by
 have hgl:g<w3.heap.size:=by
  obtain⟨-,h2⟩:=hown;rcases h2 with ⟨h2,-⟩|⟨g',cap',cur,e,-,h4,-⟩
  ·cases h2
  ·cases e;exact(Array.getElem?_eq_some_iff.1 h4).1
 have s2:w.heap.size<=w2.heap.size:=hg.size;have s3:w2.heap.size<=w3.heap.size:=hg3.size;have hgne:g≠bd/\g≠gN/\g≠gS/\ ∀b p,D.fl b=some p->g≠b:=by
  rcases hat with e|e
  ·exact h.bC e
  ·have a1:=h.lt _ h.sB
   have a2:=h.lt _ h.sN;have a3:=h.lt _ h.sS;exact⟨by omega,by omega,by omega,fun b p hp=>by have:=h.lt _ (h.sF b p hp);omega⟩
 have hC:∀k,k<w.heap.size->k≠bd->k≠gN->v.ownBlock≠some k->(w3.setCell ⟨bd,2,none⟩ (.slice (some ⟨g,0,none⟩) (D.chg.length+1) cap)).heap[k]? =w.heap[k]? :=by
  intro k h0 h1 h2 h3;rw[Below.heap_setCell _ ⟨bd,2,none⟩ _ k h1,hg3.block k (by omega) (Ne.symm h3),hg.block k h0 (by intro e;cases e;exact h2 rfl)]
 have hvb:∀k,k=bd∨k=gN∨k=gS∨(∃p,D.fl k=some p)->v.ownBlock≠some k:=by
  intro k hk e;obtain⟨e1,e2,e3,e4⟩:=h.bC e;rcases hk with hk|hk|hk|⟨p,hp⟩
  ·exact e1 hk
  ·exact e2 hk
  ·exact e3 hk
  ·exact e4 k p hp rfl
 have hbox3:Blk w3 bd (dcells gN gS v D) 75:=(h.box.grown hg (by intro e;cases e;exact h.bN rfl)).grown hg3 (hvb bd (.inl rfl));refine⟨⟨?_,?_,?_,?_,?_,h.ne,.inl h.sB,.inl h.sN,.inl h.sS,fun k hk=>.inr (by simpa[Value.ownBlock] using hk.symm),fun b p hp=>.inl (h.sF b p hp),?_,?_⟩,⟨?_,?_,?_,by simp;omega,?_,?_⟩⟩
 ·exact hbox3.put 2 _
 ·refine hm.same ?_
  rw[Below.heap_setCell _ ⟨bd,2,none⟩ _ gN h.bN,hg3.block gN hm.lt (Ne.symm (hvb gN (.inr (.inl rfl))))]
 ·exact h.safe.same (hC gS (h.lt _ h.sS) h.bS (Ne.symm h.ne) (hvb gS (.inr (.inr (.inl rfl)))))
 ·show World.ownsRow _ 0 _ 3 _ (D.chg++[c]).length (chl (D.chg++[c]))
  rw[List.length_append,List.length_singleton];refine own_block hown fun k hk=>?_
  have:k=g:=by simpa[Value.ownBlock] using hk.symm
  subst this;rw[Below.heap_setCell _ ⟨bd,2,none⟩ _ k hgne.1]
 ·intro b p hp
  obtain⟨q1,q2,q3⟩:=h.bF hp;exact(hC b (h.lt _ (h.sF b p hp)) q1 q2 (hvb b (.inr (.inr (.inr ⟨p,hp⟩))))).trans (h.fl b p hp)
 ·intro k hk
  have:w3.heap.size=(w3.setCell ⟨bd,2,none⟩ (.slice (some ⟨g,0,none⟩) (D.chg.length+1) cap)).heap.size:=by simp
  rcases hk with hk|rfl
  ·have:=h.lt _ hk;omega
  ·omega
 ·have f:=h.fit
  refine⟨fun x hx=>?_,f.wfS,fun d hd b hb=>?_,f.cap0,f.cap1,f.arm0,f.arm1,f.ops,f.big,fun k=>?_,?_⟩
  ·rcases app_mem hx with e|e
   ·exact hf _ e
   ·exact f.wfN x e
  ·rcases List.mem_append.1 hd with hd|hd
   ·exact f.wfC d hd b hb
   ·rw[List.mem_singleton] at hd
    subst hd;exact hf b hb
  ·show(apps ((D.chg++[c]).take k) D.safe).length<=200
   by_cases hk:k<=D.chg.length
   ·rw[List.take_append_of_le_length hk];exact f.few k
   ·rw[List.take_of_length_le (by simp;omega)]
    unfold apps;rw[List.foldl_append];have:=f.run;unfold apps at this;rw[this];exact hn
  ·show apps (D.chg++[c]) D.safe=app c D.now
   have:=f.run;unfold apps at this ⊢;rw[List.foldl_append,this];rfl
 ·exact hg3.os.trans hg.os
 ·exact hg3.tape.trans hg.tape
 ·exact hg3.output.trans hg.output
 ·intro k hk hn
  exact hC k hk (by rintro rfl;exact hn h.sB) (by rintro rfl;exact hn h.sN) (fun e=>hn (h.sC k e))
 ·rintro k (hk|rfl)
  ·exact .inl hk
  ·rcases hat with e|e
   ·exact .inl (h.sC _ e)
   ·exact .inr (by omega)
end
end Dk
end Go.Proofs.YtlnbjikooadmoaaGreat
namespace Go.Proofs.YtlnbjikooadmoaaGreat
namespace Dk
open Go.RowKit
section
variable {w w':World} {S:Nat->Prop} {bd gN gS:Nat} {v:Value} {D:DS}
structure Cg (w:World) (S:Nat->Prop) (bd gN c5 bC bD:Nat) (c:ByteArray×ByteArray×Option Nat):Prop where
 v5:Blk w c5 #[.func (.func 55) #[.map (some gN)] #[]] 106
 vC:Blk w bC #[.string c.1,.string c.2.1,chv c.2.2] 105
 vD:Blk w bD #[.pointer (some ⟨bd,0,none⟩)] 26
 n5: ¬ S c5
 nC: ¬ S bC
 nD: ¬ S bD
theorem Cg.grown {c5 bC bD:Nat} {c:ByteArray×ByteArray×Option Nat} {row:Option Nat} (h:Cg w S bd gN c5 bC bD c) (hg:w.grownBy w' row) (hr:∀k,row=some k->S k):Cg w' S bd gN c5 bC bD c :=
 ⟨h.v5.grown hg fun e=>h.n5 (hr _ e),h.vC.grown hg fun e=>h.nC (hr _ e),h.vD.grown hg fun e=>h.nD (hr _ e),h.n5,h.nC,h.nD⟩
set_option maxHeartbeats 6400000 in
set_option maxRecDepth 100000 in
theorem changed1_any (h:Dat w S bd gN gS v D) {c5 bC bD:Nat} (c:ByteArray×ByteArray×Option Nat) (hc:Cg w S bd gN c5 bC bD c) (hf:∀b,c.2.2=some b->D.fl b≠none) (hn:(app c D.now).length<=200) (hl:D.chg.length<=1000000) :
  Calls Tryz.prog 143 #[.pointer (some ⟨c5,0,none⟩),.pointer (some ⟨bC,0,none⟩),.pointer (some ⟨bD,0,none⟩)] w fun e w'=>e=.returned (.tuple #[])/\ ∃S',DiskAt w' S' bd (chgD c D)/\Gr S w S' w':=by
 have mixed:Tryz.prog.follows .mixedOrders=true:=by kernel_rfl
 have HA:=Lib.hid (apply_any h.now c);have HH:=Lib.hid h;have HC:=Lib.hid hc;have HF:=Lib.hid hf;have HN:=Lib.hid hn;have HL:=Lib.hid hl;have c50:=hc.v5.cell 0 (v:=.func (.func 55) #[.map (some gN)] #[]) rfl;have cC0:=hc.vC.cell 0 (v:=.string c.1) rfl;have cC1:=hc.vC.cell 1 (v:=.string c.2.1) rfl;have cC2:=hc.vC.cell 2 (v:=chv c.2.2) rfl;have sN:=h.sN;clear h hc hf hn hl;unfold cagg at HA
 go_enter Tryz.func143, Tryz.ntmps143
 go_wp2_with (first
  |(go_at_call 55;refine HA.out.mono ?_;rintro e1 w1 ⟨rfl,hm1,hg1⟩;have HM1:=Lib.hid hm1;have HG1:=Lib.hid hg1;clear hm1 hg1))
 have HC1:=Lib.hid (HC.out.grown HG1.out (by intro k hk;cases hk;exact sN));have HB1:=Lib.hid (HH.out.box.grown HG1.out (by intro e;cases e;exact HH.out.bN rfl));have HO1:=Lib.hid (own_block (w':=w1) HH.out.chg fun g hg=>HG1.out.block g (HH.out.lt g (HH.out.sC g hg)) (by intro e;cases e;exact(HH.out.bC hg).2.1 rfl));have hvb:v.ownBlock≠some bd:=fun e=>(HH.out.bC e).1 rfl
 have HX:=Lib.hid (show ∀w5,w1.grownBy w5 v.ownBlock->w5.cell? ⟨bD,0,none⟩=some (.pointer (some ⟨bd,0,none⟩))/\w5.cell? ⟨bd,2,none⟩=some v/\w5.frozen? ⟨bd,2,none⟩=false from fun w5 hg =>
  ⟨(HC1.out.grown hg HH.out.sC).vD.cell 0 rfl,(HB1.out.grown hg hvb).cell 2 rfl,(HB1.out.grown hg hvb).fz 2⟩)
 clear hvb c50 cC0 cC1 cC2;have kD:=HC1.out.vD.cell 0 (v:=.pointer (some ⟨bd,0,none⟩)) rfl;have k2:=HB1.out.cell 2 (v:=v) rfl;have f2:=HB1.out.fz 2;have kC0:=HC1.out.vC.cell 0 (v:=.string c.1) rfl;have kC1:=HC1.out.vC.cell 1 (v:=.string c.2.1) rfl;have kC2:=HC1.out.vC.cell 2 (v:=chv c.2.2) rfl;have aD:=(HC1.out.vD.alloc (.cells #[.string c.1,.string c.2.1,chv c.2.2] 105)).cell 0 (v:=.pointer (some ⟨bd,0,none⟩)) rfl;have a2:=(HB1.out.alloc (.cells #[.string c.1,.string c.2.1,chv c.2.2] 105)).cell 2 (v:=v) rfl;go_region_law (refine step_append_chg (.tmp 10) (.tmp 12) c rfl rfl HO1.out HL.out (by simp[Act.eval]) (by simp[Act.eval]) ?_;intro g5 cap w5 hown5 hg5 hat5;have x0:=(HX.out w5 hg5).1;have x1:=(HX.out w5 hg5).2.1;have x2:=(HX.out w5 hg5).2.2)
 all_goals
  have HE:=Lib.hid (HH.out.change c HF.out HN.out HM1.out HG1.out hown5 hg5 hat5);clear hown5 hg5 hat5 x0 x1 x2;go_end0
  exact⟨rfl,_,⟨gN,gS,_,HE.out.1⟩,HE.out.2⟩
end
end Dk
end Go.Proofs.YtlnbjikooadmoaaGreat
namespace Go.Proofs.YtlnbjikooadmoaaGreat
namespace Dk
open Go.RowKit
def fagg (a b:ByteArray):Value:=.agg #[.string a,.string b]
theorem file_info:(Tryz.prog.info? 110).map (·.size)=some 2:=by kernel_rfl
theorem blk_second (w:World) (o:Obj) (cs:Array Value) (t:TypeId):Blk ((w.alloc o).alloc (.cells cs t)) (w.heap.size+1) cs t:=by
 have:=Blk.new (w.alloc o) cs t
 rwa [show(w.alloc o).heap.size=w.heap.size+1 from by simp] at this
theorem ext_second (w:World) (o p:Obj):Below w.heap.size w ((w.alloc o).alloc p):=(ext_alloc w o).trans ((ext_alloc (w.alloc o) p).mono (by simp))
set_option maxHeartbeats 1600000 in
theorem fapp_ok (a b s:ByteArray) (w:World) (h:b.size+s.size<=1000000) :
  Calls Tryz.prog 74 #[fagg a b,.string s] w fun e w'=>e=.returned (.tuple #[fagg a (b++s),.int .i64 0])/\Below w.heap.size w w':=by
 have h1: ¬ (s.size:Int)>1000000-(b.size:Int):=by omega
 have h2:wrap64 (1000000-(b.size:Int))=1000000-(b.size:Int):=by unfold wrap64;omega
 unfold fagg
 go_enter Tryz.func74, Tryz.ntmps74
 go_wp2_with fail
 refine bodyPost_ret (v:=.tuple #[.agg #[.string a,.string (b++s)],.int .i64 0]) (by exact results_cell2 rfl rfl rfl (blk_second _ _ _ _) Tryz.underlying110 rfl file_info) (by exact rfl) ?_;exact⟨rfl,ext_second w _ _⟩
theorem fsync_any (a b:ByteArray) (w:World) :
  Calls Tryz.prog 101 #[fagg a b] w fun e w'=>e=.returned (fagg b b)/\Below w.heap.size w w':=by
 unfold fagg
 go_enter Tryz.func101, Tryz.ntmps101
 go_wp2_with fail
 refine bodyPost_ret (v:=.agg #[.string b,.string b]) (by exact results_cell1 rfl rfl (blk_second _ _ _ _) Tryz.underlying110 rfl file_info) (by exact rfl) ?_;exact⟨rfl,ext_second w _ _⟩
set_option maxHeartbeats 1600000 in
theorem fcut_ok (a b:ByteArray) (n:Nat) (w:World) (hb:b.size<=1000000) (h:n<=b.size) :
  Calls Tryz.prog 103 #[fagg a b,.int .i64 (n:Int)] w fun e w'=>e=.returned (.tuple #[fagg a (b.extract 0 n),.int .i64 0])/\Below w.heap.size w w':=by
 have h1: ¬ (n:Int)<0:=by omega
 have h2: ¬ (n:Int)>(b.size:Int):=by omega
 have h3:(n:Int)<=(b.size:Int):=by omega
 unfold fagg
 go_enter Tryz.func103, Tryz.ntmps103
 go_wp2_with fail
 refine bodyPost_ret (v:=.tuple #[.agg #[.string a,.string (b.extract 0 n)],.int .i64 0]) (by exact results_cell2 rfl rfl rfl (blk_second _ _ _ _) Tryz.underlying110 rfl file_info) (by exact rfl) ?_;exact⟨rfl,ext_second w _ _⟩
end Dk
end Go.Proofs.YtlnbjikooadmoaaGreat
namespace Go.Proofs.YtlnbjikooadmoaaGreat
namespace Nm
def okRune (r:Int):Bool:=(decide (97<=r)&&decide (r<=122))||(decide (48<=r)&&decide (r<=57))||(r==46)||(r==45)
def okB (c:UInt8):Bool:=okRune c.toNat
def check (l:List UInt8):Int:=if 1<=l.length/\l.length<=64/\l.all okB=true then 0 else 180
def num6 (n:Int):List UInt8:=toU8 [48+n/10/10/10/10/10%10,48+n/10/10/10/10%10,48+n/10/10/10%10,48+n/10/10%10,48+n/10%10,48+n%10]
def may (n:Int):Bool:=decide (1<=n)&&decide (n<=999999)
def seg (i g:Int):List UInt8:=[115,101,103,45]++num6 i++[45]++num6 g++[46,108,111,103]
def isD (c:UInt8):Bool:=decide (48<=c.toNat)&&decide (c.toNat<=57)
def valTo (n:Int):List UInt8->Int
 | []=>n
 |c::l=>valTo (10*n+((c.toNat:Int)-48)) l
def value (l:List UInt8):Int:=if l.all isD=true then valTo 0 l else 0
def parse (l:List UInt8):Option (Int×Int) :=
 if l.length=21 then
  let i:=value ((l.drop 4).take 6)
  let g:=value ((l.drop 11).take 6)
  if may i=true/\may g=true/\seg i g=l then some (i,g) else none
 else none
theorem length_seg (i g:Int):(seg i g).length=21:=rfl
theorem toNat_u8 (z:Int) (h0:0<=z) (h1:z<256):((UInt8.ofNat z.toNat).toNat:Int)=z:=by
 simp only[UInt8.toNat_ofNat'];omega
theorem dig_toNat (z:Int):((UInt8.ofNat (48+z%10).toNat).toNat:Int)=48+z%10:=toNat_u8 _ (by omega) (by omega)
theorem num6_digits (n:Int):(num6 n).all isD=true:=by
 simp only[num6,toU8,List.map_cons,List.map_nil,List.all_cons,List.all_nil,isD,Bool.and_eq_true,decide_eq_true_eq,Bool.and_true];have h0:=dig_toNat n;have h1:=dig_toNat (n/10);have h2:=dig_toNat (n/10/10);have h3:=dig_toNat (n/10/10/10);have h4:=dig_toNat (n/10/10/10/10);have h5:=dig_toNat (n/10/10/10/10/10);omega
theorem may_iff (n:Int):may n=true↔1<=n/\n<=999999:=by simp[may]
def kind (l:List UInt8):Int :=
 if(parse l).isSome=true then 1 else if l=[109,97,110,105,102,101,115,116] then 2 else if l=[109,97,110,105,102,101,115,116,46,110,101,119] then 3 else 0
theorem okB_of_isD (c:UInt8) (h:isD c=true):okB c=true:=by
 simp[isD] at h
 simp[okB,okRune]
 omega
theorem check_seg (i g:Int):check (seg i g)=0:=by
 unfold check;rw[if_pos];refine⟨by rw[length_seg];decide,by rw[length_seg];decide,?_⟩;have h:∀n,(num6 n).all okB=true:=fun n=>List.all_eq_true.2 fun c hc=>okB_of_isD c (List.all_eq_true.1 (num6_digits n) c hc)
 unfold seg;simp only[List.all_append,h,Bool.and_eq_true]
 decide
end Nm
end Go.Proofs.YtlnbjikooadmoaaGreat
namespace Go.Proofs.YtlnbjikooadmoaaGreat
namespace Nm
open Go.RowKit
set_option maxHeartbeats 400000 in
theorem letter_any (r:Int) (w:World):Calls Tryz.prog 142 #[.int .i32 r] w fun e w'=>e=.returned (.bool (okRune r))/\w=w':=by
 go_enter Tryz.func142, Tryz.ntmps142
 go_wp2
 all_goals
  go_ret
  refine⟨ret_bool ?_,rfl⟩;unfold okRune;rw[Bool.eq_iff_iff];simp
  try omega
theorem all_take_succ (s:ByteArray) (p:UInt8->Bool) (k:Nat) (hk:k<s.size):(s.data.toList.take (k+1)).all p=((s.data.toList.take k).all p&&p s[k]):=by
 rw[List.take_succ_eq_append_getElem (by simpa using hk),List.all_append];simp
 rfl
theorem all_of_not (s:ByteArray) (p:UInt8->Bool) (k:Nat) (hk:k<s.size) (h:p s[k]=false):s.data.toList.all p=false:=by
 rw[List.all_eq_false];exact⟨s[k],List.getElem_mem (by simpa using hk),by simp[h]⟩
theorem okB_high (c:UInt8) (h:128<=c.toNat):okB c=false:=by
 simp[okB,okRune];omega
set_option maxHeartbeats 400000 in
theorem check_any (s:ByteArray) (w:World) :
  Calls Tryz.prog 105 #[.string s] w fun e w'=>e=.returned (.int .i64 (check s.data.toList))/\Below w.heap.size w w':=by
 by_cases h1:s.size<1
 ·have hr:check s.data.toList=180:=by
   unfold check;rw[if_neg];intro h;have:s.data.toList.length=s.size:=rfl;omega
  rw[hr];clear hr
  go_enter Tryz.func105, Tryz.ntmps105
  go_wp2
  go_ret
  exact⟨rfl,Below.refl _ _⟩
 by_cases h2:64<s.size
 ·have hr:check s.data.toList=180:=by
   unfold check;rw[if_neg];intro h;have:s.data.toList.length=s.size:=rfl;omega
  rw[hr];clear hr
  go_enter Tryz.func105, Tryz.ntmps105
  go_wp2
  go_ret
  exact⟨rfl,Below.refl _ _⟩
 go_enter Tryz.func105, Tryz.ntmps105
 go_wp2_with fail
 go_loopw [4] (fun _ wr=>∃pos:Nat,pos<=s.size/\wr=w.iter s pos/\(s.data.toList.take pos).all okB=true) (fun _ wr=>s.size-wr.iterPos w.heap.size)
 case atStart=>exact⟨0,by omega,rfl,by simp⟩
 case round =>
  obtain⟨pos,hp,rfl,hall⟩:=hrel;have Hall:=Lib.hid hall;clear hall;by_cases hlt:pos<s.size
  ·by_cases ha:(s[pos]'hlt).toNat<128
   ·have hnx:∀ty,(Instr.next (.pointer (some ⟨w.heap.size,0,none⟩)) true ty).run Tryz.prog (w.iter s pos)=_:=fun ty=>run_next_ascii w s pos ty hlt ha
    by_cases hk:okRune ((s[pos]'hlt).toNat:Int)=true
    ·have HK:=Lib.hid hk
     clear hk;go_wp2_with (go_at_call 142;refine(letter_any _ _).mono ?_;rintro e w' ⟨rfl,rfl⟩;rw[HK.out])
     go_roundw
     case rel =>
      refine⟨pos+1,by omega,rfl,?_⟩;rw[all_take_succ s okB pos hlt,Hall.out,okB,HK.out];rfl
     case measure=>simp;omega
    ·simp only[Bool.not_eq_true] at hk
     have HK:=Lib.hid hk;clear hk;go_wp2_with (go_at_call 142;refine(letter_any _ _).mono ?_;rintro e w' ⟨rfl,rfl⟩;rw[HK.out])
     go_ret
     have hno:=all_of_not s okB pos hlt HK.out;refine⟨ret_int ?_,below_iter (Below.refl _ _) (Nat.le_refl _) _ _⟩;unfold check;rw[if_neg (by rw[hno];simp)]
   ·have hnx:∀ty,(Instr.next (.pointer (some ⟨w.heap.size,0,none⟩)) true ty).run Tryz.prog (w.iter s pos)=_:=fun ty=>run_next_any w s pos ty hlt
    have hd:=(decode_high s pos hlt (by omega)).1;have hk:okRune ((Utf8.decode s pos).1:Int)=false:=by simp[okRune];omega
    have HK:=Lib.hid hk;clear hk;go_wp2_with (go_at_call 142;refine(letter_any _ _).mono ?_;rintro e w' ⟨rfl,rfl⟩;rw[HK.out])
    go_ret
    have hno:=all_of_not s okB pos hlt (okB_high _ (by omega));refine⟨ret_int ?_,below_iter (Below.refl _ _) (Nat.le_refl _) _ _⟩;unfold check;rw[if_neg (by rw[hno];simp)]
  ·have hnx:∀ty,(Instr.next (.pointer (some ⟨w.heap.size,0,none⟩)) true ty).run Tryz.prog (w.iter s pos)=_:=fun ty=>run_next_end w s pos ty hlt
   go_wp2_with fail
   go_ret
   refine⟨ret_int ?_,below_iter (Below.refl _ _) (Nat.le_refl _) _ _⟩;have hall:=Hall.out;rw[List.take_of_length_le (by simp;omega)] at hall;have hl:s.data.toList.length=s.size:=rfl;unfold check;rw[if_pos ⟨by omega,by omega,hall⟩]
end Nm
end Go.Proofs.YtlnbjikooadmoaaGreat
namespace Go.Proofs.YtlnbjikooadmoaaGreat
namespace Dk
open Go.RowKit
section
variable {w w':World} {S:Nat->Prop} {bd gN gS:Nat} {v:Value} {D:DS}
theorem Cg.gr {c5 bC bD:Nat} {c:ByteArray×ByteArray×Option Nat} {S':Nat->Prop} (h:Cg w S bd gN c5 bC bD c) (hg:Gr S w S' w'):Cg w' S bd gN c5 bC bD c :=
 ⟨hg.blk h.v5 h.n5,hg.blk h.vC h.nC,hg.blk h.vD h.nD,h.n5,h.nC,h.nD⟩
theorem store_val {P:Program} {w:World} {a:Addr} {v old:Value} (h1:v.oneCell'=true) (hc:w.cell? a=some old) (hf:w.frozen? a=false):(store a v).run P w=.ok () (w.setCell a v):=by
 rw[run_store P w a v _ h1,hc];simp[hf]
theorem op_changed (h:Dat w S bd gN gS v D) {c5 bC bD:Nat} (c:ByteArray×ByteArray×Option Nat) (hc:Cg w S bd gN c5 bC bD c) (hf:∀b,c.2.2=some b->D.fl b≠none) (hn:(app c D.now).length<=200) (hl:D.chg.length<=1000000) :
  Calls Tryz.prog 51 #[.pointer (some ⟨bd,0,none⟩),.bool false,.func (.func 143) #[] #[.pointer (some ⟨c5,0,none⟩),.pointer (some ⟨bC,0,none⟩),.pointer (some ⟨bD,0,none⟩)]] w fun e w'=>e=.returned (.int .i64 (opE D))/\ ∃S',DiskAt w' S' bd (opS false (chgD c) D)/\Gr S w S' w' :=
 op_dat false 143 #[] #[.pointer (some ⟨c5,0,none⟩),.pointer (some ⟨bC,0,none⟩),.pointer (some ⟨bD,0,none⟩)] (chgD c) h (enters_of Tryz.func143 (by kernel_rfl) rfl)
  fun w1 h1 g1=>changed1_any h1 c (hc.gr g1) hf hn hl
set_option maxHeartbeats 3200000 in
set_option maxRecDepth 100000 in
theorem changed_any (h:DiskAt w S bd D) (c:ByteArray×ByteArray×Option Nat) (hf:∀b,c.2.2=some b->D.fl b≠none) (hn:(app c D.now).length<=200) (hl:D.chg.length<=1000000) :
  Calls Tryz.prog 106 #[.pointer (some ⟨bd,0,none⟩),cagg c] w fun e w'=>e=.returned (.int .i64 (opE D))/\ ∃S',DiskAt w' S' bd (opS false (chgD c) D)/\Gr S w S' w':=by
 obtain⟨gN,gS,v,h⟩:=h;have c0:=h.c0;have lb:=h.box.lt;have HO:=Lib.hid (show ∀wx,wx=((w.alloc (.cells #[.pointer (some ⟨bd,0,none⟩)] 26)).alloc (.cells #[.string c.1,.string c.2.1,chv c.2.2] 105)).alloc (.cells #[.func (.func 55) #[.map (some gN)] #[]] 106) ->
   Calls Tryz.prog 51 #[.pointer (some ⟨bd,0,none⟩),.bool false,.func (.func 143) #[] #[.pointer (some ⟨w.heap.size+1+1,0,none⟩),.pointer (some ⟨w.heap.size+1,0,none⟩),.pointer (some ⟨w.heap.size,0,none⟩)]] wx fun e w'=>e=.returned (.int .i64 (opE D))/\ ∃S',DiskAt w' S' bd (opS false (chgD c) D)/\Gr S w S' w' from by
  rintro wx rfl;have e3:=((ext_alloc w (.cells #[.pointer (some ⟨bd,0,none⟩)] 26)).trans ((ext_alloc (w.alloc (.cells #[.pointer (some ⟨bd,0,none⟩)] 26)) (.cells #[.string c.1,.string c.2.1,chv c.2.2] 105)).mono (by simp))).trans
   ((ext_alloc ((w.alloc (.cells #[.pointer (some ⟨bd,0,none⟩)] 26)).alloc (.cells #[.string c.1,.string c.2.1,chv c.2.2] 105)) (.cells #[.func (.func 55) #[.map (some gN)] #[]] 106)).mono (by simp;omega))
  refine(op_changed (h.ext e3) c ⟨?_,(blk_second _ _ _ _).alloc _,((Blk.new w _ _).alloc _).alloc _,h.gt (by omega),h.gt (by omega),h.gt (Nat.le_refl _)⟩ hf hn hl).mono ?_
  ·have:=blk_second (w.alloc (.cells #[.pointer (some ⟨bd,0,none⟩)] 26)) (.cells #[.string c.1,.string c.2.1,chv c.2.2] 105) #[.func (.func 55) #[.map (some gN)] #[]] 106
   rwa [show(w.alloc (.cells #[.pointer (some ⟨bd,0,none⟩)] 26)).heap.size+1=w.heap.size+1+1 from by simp] at this
  ·rintro e w' ⟨rfl,S',h2,g2⟩
   exact⟨rfl,S',h2,(Gr.of_below e3).trans g2⟩)
 have hV:=blk_second (w.alloc (.cells #[.pointer (some ⟨bd,0,none⟩)] 26)) (.cells #[.string c.1,.string c.2.1,chv c.2.2] 105) #[.nilFunc] 106;rw[show(w.alloc (.cells #[.pointer (some ⟨bd,0,none⟩)] 26)).heap.size+1=w.heap.size+1+1 from by simp] at hV;have d1:=store_val (P:=Tryz.prog) (v:=.func (.func 55) #[.map (some gN)] #[]) rfl (hV.cell 0 (v:=.nilFunc) rfl) (hV.fz 0);clear h hf hn hl hV;unfold cagg
 go_enter Tryz.func106, Tryz.ntmps106
 go_wp2_with (go_at_call 51;refine(HO.out _ rfl).mono ?_;rintro e5 w5 ⟨rfl,S5,hD5,hG5⟩;have HD5:=Lib.hid hD5;have HG5:=Lib.hid hG5;clear hD5 hG5)
 go_ret
 exact⟨rfl,S5,HD5.out,HG5.out⟩
end
end Dk
end Go.Proofs.YtlnbjikooadmoaaGreat
namespace Go.Proofs.YtlnbjikooadmoaaGreat
namespace Dk
open Go.RowKit
section
variable {w w':World} {S:Nat->Prop} {bd gN gS:Nat} {v:Value} {D:DS}
theorem Dat.newF (h:Dat w S bd gN gS v D):Dat (w.alloc (.cells #[.string ⟨#[]⟩,.string ⟨#[]⟩] 110)) (fun k=>S k∨k=w.heap.size) bd gN gS v (setF w.heap.size (⟨#[]⟩,⟨#[]⟩) D):=by
 have h':=h.ext (ext_alloc w (.cells #[.string ⟨#[]⟩,.string ⟨#[]⟩] 110));have hn:∀k,D.fl k≠none->(setF w.heap.size (⟨#[]⟩,⟨#[]⟩) D).fl k≠none:=by
  intro k hk;unfold setF;dsimp only;split
  ·simp
  ·exact hk
 have hc:∀k p,(setF w.heap.size (⟨#[]⟩,⟨#[]⟩) D).fl k=some p->(k=w.heap.size/\p=(⟨#[]⟩,⟨#[]⟩))∨D.fl k=some p:=by
  intro k p hk;unfold setF at hk;dsimp only at hk;split at hk
  ·cases hk;exact .inl ⟨‹_›,rfl⟩
  ·exact .inr hk
 refine⟨h'.box,h'.now,h'.safe,h'.chg,fun b p hp=>?_,h.ne,.inl h.sB,.inl h.sN,.inl h.sS,fun g hg=>.inl (h.sC g hg),fun b p hp=>?_,fun b hb=>?_,?_⟩
 ·rcases hc b p hp with ⟨rfl,rfl⟩|hp
  ·exact Blk.new w _ _
  ·exact h'.fl b p hp
 ·rcases hc b p hp with ⟨rfl,rfl⟩|hp
  ·exact .inr rfl
  ·exact .inl (h.sF b p hp)
 ·rcases hb with hb|rfl
  ·exact h'.lt b hb
  ·simp
 ·have f:=h.fit
  refine⟨fun x hx=>hn _ (f.wfN x hx),fun x hx=>hn _ (f.wfS x hx),fun c hc b hb=>hn _ (f.wfC c hc b hb),f.cap0,f.cap1,f.arm0,f.arm1,f.ops,fun b p hp=>?_,f.few,f.run⟩;rcases hc b p hp with ⟨rfl,rfl⟩|hp
  ·exact⟨Nat.zero_le _,Nat.zero_le _⟩
  ·exact f.big b p hp
def newD (cap:Int):DS:=⟨[],[],[],fun _=>none,cap,0,0,false⟩
theorem new_at (cap:Int) (w:World) (h0:0<=cap) (h1:cap<=10000000):∃bd,Ending.returned (.tuple #[.pointer (some ⟨w.heap.size+1+1,0,none⟩),.int .i64 0])=.returned (.tuple #[.pointer (some ⟨bd,0,none⟩),.int .i64 0])/\ ∃S',
  DiskAt (((w.alloc (.map #[] 0)).alloc (.map #[] 0)).alloc (.cells #[.map (some w.heap.size),.map (some (w.heap.size+1)),.slice none 0 0,.int .i64 cap,.int .i64 0,.int .i64 0,.bool false,.bool true] 75)) S' bd (newD cap) /\
  Gr (fun _=>False) w S' (((w.alloc (.map #[] 0)).alloc (.map #[] 0)).alloc (.cells #[.map (some w.heap.size),.map (some (w.heap.size+1)),.slice none 0 0,.int .i64 cap,.int .i64 0,.int .i64 0,.bool false,.bool true] 75)):=by
 have s1:(w.alloc (.map #[] 0)).heap.size=w.heap.size+1:=by simp
 have s2:((w.alloc (.map #[] 0)).alloc (.map #[] 0)).heap.size=w.heap.size+1+1:=by simp
 have m1:((w.alloc (.map #[] 0)).alloc (.map #[] 0)).heap[w.heap.size+1]? =some (.map #[] 0):=by
  have:=heap_alloc_new (w.alloc (.map #[] 0)) (.map #[] 0)
  rwa [s1] at this
 have m0:((w.alloc (.map #[] 0)).alloc (.map #[] 0)).heap[w.heap.size]? =some (.map #[] 0) :=
  (Below.heap_alloc (w.alloc (.map #[] 0)) _ w.heap.size (by omega)).trans (heap_alloc_new w (.map #[] 0))
 have e3:∀o k,k<w.heap.size+1+1->(((w.alloc (.map #[] 0)).alloc (.map #[] 0)).alloc o).heap[k]? =((w.alloc (.map #[] 0)).alloc (.map #[] 0)).heap[k]? :=fun o k hk=>Below.heap_alloc ((w.alloc (.map #[] 0)).alloc (.map #[] 0)) o k (by omega)
 have nl:∀(wx:World) (g:Nat),wx.heap[g]? =some (.map #[] 0)->Mp wx g (vs []):=fun wx g h=>⟨#[],0,h,⟨by simp,by simp,by simp⟩,rfl⟩
 refine⟨w.heap.size+1+1,rfl,fun k=>w.heap.size<=k/\k<w.heap.size+1+1+1,⟨w.heap.size,w.heap.size+1,.slice none 0 0,?_,nl _ _ ?_,nl _ _ ?_,?_,fun b p hp=>?_,by omega,by omega,by omega,by omega,fun g hg=>?_,fun b p hp=>?_,fun b hb=>by simp;omega,?_⟩,?_⟩
 ·have:=Blk.new ((w.alloc (.map #[] 0)).alloc (.map #[] 0)) (dcells w.heap.size (w.heap.size+1) (.slice none 0 0) (newD cap)) 75
  rw[s2] at this;exact this
 ·rw[e3 _ _ (by omega)];exact m0
 ·rw[e3 _ _ (by omega)];exact m1
 ·exact World.ownsRow_nil _ _ _ _
 ·cases hp
 ·cases hg
 ·cases hp
 ·refine⟨fun x hx=>?_,fun x hx=>?_,fun x hx=>?_,h0,h1,Int.le_refl 0,?_,rfl,fun b p hp=>?_,fun k=>?_,rfl⟩
  ·cases hx
  ·cases hx
  ·cases hx
  ·show(0:Int)<=9223372036854775807;omega
  ·cases hp
  ·show(apps (List.take k []) []).length<=200
   rw[List.take_nil];exact Nat.zero_le _
 ·exact⟨rfl,rfl,rfl,by simp;omega,fun k hk _=>by rw[e3 _ _ (by omega),Below.heap_alloc (w.alloc (.map #[] 0)) _ k (by omega),Below.heap_alloc w _ k hk],fun k hk=>.inr hk.1⟩
set_option maxHeartbeats 3200000 in
set_option maxRecDepth 100000 in
theorem new_ok (cap:Int) (w:World) (h0:0<=cap) (h1:cap<=10000000):Calls Tryz.prog 7 #[.int .i64 cap] w fun e w'=>∃bd,e=.returned (.tuple #[.pointer (some ⟨bd,0,none⟩),.int .i64 0])/\ ∃S',DiskAt w' S' bd (newD cap)/\Gr (fun _=>False) w S' w':=by
 have t0: ¬ cap<0:=by omega
 have t1: ¬ cap>10000000:=by omega
 have hmm:∀w,(Instr.makeMap 72 none).run Tryz.prog w=.ok (.map (some w.heap.size)) (w.alloc (.map #[] 0)):=fun _=>rfl
 go_enter Tryz.func7, Tryz.ntmps7
 go_wp2_with fail
 go_ret2
 exact new_at cap w h0 h1
set_option maxHeartbeats 3200000 in
set_option maxRecDepth 100000 in
theorem create_go (h:DiskAt w S bd D) {s:ByteArray} (ho:D.off=false) (hs:Nm.check s.data.toList=0) (hl:lk s D.now=none) (hn:D.now.length<200) (hc:D.chg.length<=1000000) :
  Calls Tryz.prog 63 #[.pointer (some ⟨bd,0,none⟩),.string s] w fun e w'=>e=.returned (.int .i64 (opE D))/\ ∃b S',D.fl b=none/\DiskAt w' S' bd (opS false (chgD (s,⟨#[]⟩,some b)) (setF b (⟨#[]⟩,⟨#[]⟩) D))/\Gr S w S' w':=by
 have HU:=Lib.hid (fun wx (h:DiskAt wx S bd D)=>up_any h);have HN:=Lib.hid (fun wx=>Nm.check_any s wx);rw[hs] at HN;have hup:upE D=0:=by unfold upE;rw[ho];rfl
 rw[hup] at HU;have HC:=Lib.hid (show ∀wx,DiskAt wx S bd D->Below w.heap.size w wx->Calls Tryz.prog 106 #[.pointer (some ⟨bd,0,none⟩),.agg #[.string s,.string ⟨#[]⟩,.pointer (some ⟨wx.heap.size,0,none⟩)]] (wx.alloc (.cells #[.string ⟨#[]⟩,.string ⟨#[]⟩] 110))
   fun e w'=>e=.returned (.int .i64 (opE D))/\ ∃b S',D.fl b=none/\DiskAt w' S' bd (opS false (chgD (s,⟨#[]⟩,some b)) (setF b (⟨#[]⟩,⟨#[]⟩) D))/\Gr S w S' w' from by
  rintro wx ⟨gN,gS,v,hx⟩ hb;refine(changed_any (D:=setF wx.heap.size (⟨#[]⟩,⟨#[]⟩) D) ⟨gN,gS,v,hx.newF⟩ (s,⟨#[]⟩,some wx.heap.size) (fun b e=>?_) ?_ hc).mono ?_
  ·cases e
   unfold setF;simp
  ·show(app (s,⟨#[]⟩,some wx.heap.size) D.now).length<=200
   unfold app;dsimp only;rw[if_pos rfl,pt_len,hl];simp only[Option.isSome_none,Bool.false_eq_true,if_false];omega
  ·rintro e w' ⟨rfl,S',h2,g2⟩
   refine⟨rfl,wx.heap.size,S',?_,h2,?_⟩
   ·rcases hf:D.fl wx.heap.size with _|p
    ·rfl
    ·exact absurd (hx.lt _ (hx.sF _ _ hf)) (by omega)
   ·exact(Gr.of_below hb).trans (((Gr.alloc _).more fun k hk=>hk.imp_right (by omega)).trans g2))
 have HD:=Lib.hid h;have HX:=Lib.hid (show ∀wx,Below w.heap.size w wx->DiskAt wx S bd D from fun wx hb=>h.ext hb);obtain⟨gN,gS,v,h⟩:=h;have HM:=Lib.hid h;have c0:=h.c0;have HL:=Lib.hid (show find1 s (vs D.now)=none from by rw[vs_find,hl];rfl);have hlen:(vs D.now).length=D.now.length:=by unfold vs;rw[List.length_map]
 have hge: ¬ ((vs D.now).length:Int)>=200:=by omega
 clear h ho hs hl hn hc hup
 go_enter Tryz.func63, Tryz.ntmps63
 go_wp2_with (first
  |(go_at_call 50;refine(HU.out _ HD.out).mono ?_;rintro e1 w1 ⟨rfl,rfl⟩)
  |(go_at_call 105;refine(HN.out _).mono ?_;rintro e2 w2 ⟨rfl,hb2⟩;have HB2:=Lib.hid hb2;have HM2:=Lib.hid (HM.out.ext hb2);have k0:=HM2.out.c0;clear hb2 c0)
  |(at_lookup;refine wpList_lookupS Tryz.underlying72 Tryz.underlying9 ptr_zero HM2.out.now s _ _ ?_;rw[HL.out])
  |(at_len;refine wpList_lenS Tryz.underlying72 HM2.out.now _ ?_)
  |(go_at_call 106;refine(HC.out _ (HX.out _ HB2.out) HB2.out).mono ?_;rintro e5 w5 ⟨rfl,b,S5,hf5,hD5,hG5⟩;have HD5:=Lib.hid (And.intro hf5 (And.intro hD5 hG5));clear hf5 hD5 hG5))
 go_ret
 exact⟨rfl,b,S5,HD5.out⟩
end
end Dk
end Go.Proofs.YtlnbjikooadmoaaGreat
namespace Go.Proofs.YtlnbjikooadmoaaGreat
namespace Dk
open Go.RowKit
section
variable {w w':World} {S:Nat->Prop} {bd gN gS:Nat} {v:Value} {D:DS}
def readP (D:DS) (s:ByteArray):ByteArray×Int:=if D.off then(⟨#[]⟩,200) else match lk s D.now with
 |none=>(⟨#[]⟩,201)
 |some b=>(((D.fl b).map (·.2)).getD ⟨#[]⟩,0)
theorem lk_file (h:Dat w S bd gN gS v D) {s:ByteArray} {b:Nat} (hl:lk s D.now=some b):∃p,D.fl b=some p/\S b/\Blk w b #[.string p.1,.string p.2] 110:=by
 have:=h.fit.wfN _ (lk_mem hl);obtain⟨p,hp⟩:=Option.ne_none_iff_exists'.1 this;exact⟨p,hp,h.sF b p hp,h.fl b p hp⟩
set_option maxHeartbeats 1600000 in
theorem read_any (h:DiskAt w S bd D) (s:ByteArray):Calls Tryz.prog 39 #[.pointer (some ⟨bd,0,none⟩),.string s] w fun e w'=>e=.returned (.tuple #[.string (readP D s).1,.int .i64 (readP D s).2])/\w=w':=by
 have hF:=find_any h s;obtain⟨gN,gS,v,h⟩:=h;unfold findP at hF;unfold readP;rcases ho:D.off with _|_
 ·rw[ho] at hF
  simp only[Bool.false_eq_true,if_false] at hF ⊢;rcases hl:lk s D.now with _|b
  ·rw[hl] at hF
   dsimp only at hF ⊢;clear h ho hl
   go_enter Tryz.func39, Tryz.ntmps39
   go_wp2_with (go_at_call 73;refine hF.mono ?_;rintro e1 w1 ⟨rfl,rfl⟩)
   go_ret2
   exact⟨rfl,rfl⟩
  ·obtain⟨p,hp,-,hb⟩:=lk_file h hl
   rw[hl] at hF;dsimp only at hF ⊢;rw[hp];unfold ptr at hF;have c1:=hb.cell 1 (v:=.string p.2) rfl;clear h ho hl hp hb
   go_enter Tryz.func39, Tryz.ntmps39
   go_wp2_with (go_at_call 73;refine hF.mono ?_;rintro e1 w1 ⟨rfl,rfl⟩)
   go_ret2
   exact⟨rfl,rfl⟩
 ·rw[ho] at hF
  simp only[if_true] at hF ⊢;clear h ho
  go_enter Tryz.func39, Tryz.ntmps39
  go_wp2_with (go_at_call 73;refine hF.mono ?_;rintro e1 w1 ⟨rfl,rfl⟩)
  go_ret2
  exact⟨rfl,rfl⟩
set_option maxHeartbeats 1600000 in
theorem app1_any (h:DiskAt w S bd D) {b cg cf:Nat} {p:ByteArray×ByteArray} (hb:D.fl b≠none) (hg:Blk w cg #[.string p.1,.string p.2] 110) (hf:w.cell? ⟨cf,0,none⟩=some (.pointer (some ⟨b,0,none⟩)))
  (h1:p.1.size<=1000000) (h2:p.2.size<=1000000) :
  Calls Tryz.prog 76 #[.pointer (some ⟨cg,0,none⟩),.pointer (some ⟨cf,0,none⟩)] w fun e w'=>e=.returned (.tuple #[])/\ ∃S2,DiskAt w' S2 bd (setF b p D)/\Gr S w S2 w':=by
 obtain⟨gN,gS,v,h⟩:=h;obtain⟨q,hq⟩:=Option.ne_none_iff_exists'.1 hb;have hB:=h.fl b q hq;have b0:=hB.cell 0 rfl;have b1:=hB.cell 1 rfl;have x0:=hB.fz 0;have x1:=hB.fz 1;have g0:=hg.cell 0 rfl;have g1:=hg.cell 1 rfl;have sb:=h.sF b q hq;have HH:=Lib.hid (show Dat ((w.setCell ⟨b,0,none⟩ (.string p.1)).setCell ⟨b,1,none⟩ (.string p.2)) S bd gN gS v (setF b p D) from
  h.bytes (by simp) (fun k _ hk=>by rw[Below.heap_setCell _ ⟨b,1,none⟩ _ k hk,Below.heap_setCell _ ⟨b,0,none⟩ _ k hk]) hb ((hB.put 0 _).put 1 _) h1 h2)
 clear h hb hq
 go_enter Tryz.func76, Tryz.ntmps76
 go_wp2_with fail
 go_end0
 exact⟨rfl,S,⟨gN,gS,v,HH.out⟩,(Gr.setCell sb 0 _).trans (Gr.setCell sb 1 _)⟩
set_option maxHeartbeats 1600000 in
theorem cut1_any (h:DiskAt w S bd D) {b cg cf:Nat} {p:ByteArray×ByteArray} (hb:D.fl b≠none) (hg:Blk w cg #[.string p.1,.string p.2] 110) (hf:w.cell? ⟨cf,0,none⟩=some (.pointer (some ⟨b,0,none⟩)))
  (h1:p.1.size<=1000000) (h2:p.2.size<=1000000) :
  Calls Tryz.prog 104 #[.pointer (some ⟨cg,0,none⟩),.pointer (some ⟨cf,0,none⟩)] w fun e w'=>e=.returned (.tuple #[])/\ ∃S2,DiskAt w' S2 bd (setF b p D)/\Gr S w S2 w':=by
 obtain⟨gN,gS,v,h⟩:=h;obtain⟨q,hq⟩:=Option.ne_none_iff_exists'.1 hb;have hB:=h.fl b q hq;have b0:=hB.cell 0 rfl;have b1:=hB.cell 1 rfl;have x0:=hB.fz 0;have x1:=hB.fz 1;have g0:=hg.cell 0 rfl;have g1:=hg.cell 1 rfl;have sb:=h.sF b q hq;have HH:=Lib.hid (show Dat ((w.setCell ⟨b,0,none⟩ (.string p.1)).setCell ⟨b,1,none⟩ (.string p.2)) S bd gN gS v (setF b p D) from
  h.bytes (by simp) (fun k _ hk=>by rw[Below.heap_setCell _ ⟨b,1,none⟩ _ k hk,Below.heap_setCell _ ⟨b,0,none⟩ _ k hk]) hb ((hB.put 0 _).put 1 _) h1 h2)
 clear h hb hq
 go_enter Tryz.func104, Tryz.ntmps104
 go_wp2_with fail
 go_end0
 exact⟨rfl,S,⟨gN,gS,v,HH.out⟩,(Gr.setCell sb 0 _).trans (Gr.setCell sb 1 _)⟩
end
end Dk
end Go.Proofs.YtlnbjikooadmoaaGreat
namespace Go.Proofs.YtlnbjikooadmoaaGreat
namespace Dk
open Go.RowKit
theorem vs_split {c b:List (ByteArray×Value)} {s:ByteArray} {v:Value} {r:List (ByteArray×Nat)} (h:vs r=c++(s,v)::b):∃r1 k r2,r=r1++(s,k)::r2/\c=vs r1/\v=ptr k/\b=vs r2:=by
 unfold vs at h;obtain⟨r1,r3,e1,e2,e3⟩:=List.map_eq_append_iff.1 h;obtain⟨y,r2,e4,e5,e6⟩:=List.map_eq_cons_iff.1 e3;simp only[Prod.mk.injEq] at e5;exact⟨r1,y.2,r2,by rw[e1,e4,<-e5.1],e2.symm,e5.2.symm,e6.symm⟩
theorem vs_append (a b:List (ByteArray×Nat)):vs (a++b)=vs a++vs b:=List.map_append ..
section
variable {w w':World} {S:Nat->Prop} {bd gN gS:Nat} {v:Value} {D:DS}
structure Us (D:DS) (gN it:Nat) (w:World) (r:List (ByteArray×Nat)) (m:Nat) (wr:World):Prop where
 sum:m+szs D.fl r=usedD D
 it:Itr wr gN it (vs D.now) (vs r)
 sub:∀x∈r,D.fl x.2≠none
 below:Below w.heap.size w wr
theorem us_step {r:List (ByteArray×Nat)} {m:Nat} {wr w2:World} {c b:List (ByteArray×Value)} {s:ByteArray} {z:Value} (h:Dat w S bd gN gS v D) (hx:Us D gN w.heap.size w r m wr)
  (e:vs r=c++(s,z)::b) (hi:Itr w2 gN w.heap.size (vs D.now) (c++b)) (hg:wr.grownBy w2 (some w.heap.size)) :
  ∃(k m2:Nat) (r2:List (ByteArray×Nat)) (p:ByteArray×ByteArray),z=.pointer (some ⟨k,0,none⟩)/\w2.cell? ⟨k,1,none⟩=some (.string p.2)/\(m2=m+p.2.size/\m2<=usedD D)/\r2.length<r.length/\Aside (Us D gN w.heap.size w r2 m2 w2):=by
 obtain⟨r1,k,r2,rfl,rfl,rfl,rfl⟩:=vs_split e;obtain⟨p,hp⟩:=Option.ne_none_iff_exists'.1 (hx.sub (s,k) (by simp));have hb2:Below w.heap.size w w2:=hx.below.grown hg hx.below.size (by intro k hk;cases hk;exact Nat.le_refl _);have hs:=hx.sum;rw[szs_append,szs,hp,Option.map_some,Option.getD_some] at hs;refine⟨k,m+p.2.size,r1++r2,p,rfl,((h.ext hb2).fl k p hp).cell 1 rfl,⟨rfl,by omega⟩,by simp,⟨by rw[szs_append];omega,by rw[vs_append];exact hi,fun x hx'=>hx.sub x ?_,hb2⟩⟩;rw[List.mem_append] at hx' ⊢;exact hx'.imp_right (List.mem_cons_of_mem _)
set_option maxHeartbeats 3200000 in
set_option maxRecDepth 100000 in
theorem used_any (h:DiskAt w S bd D):Calls Tryz.prog 75 #[.pointer (some ⟨bd,0,none⟩)] w fun e w'=>e=.returned (.int .i64 (usedD D:Int))/\Below w.heap.size w w':=by
 obtain⟨gN,gS,v,h⟩:=h;have c0:=h.c0;have HM:=Lib.hid h.now;have HH:=Lib.hid h;have HT:=Lib.hid (show usedD D<=200*1000000 from Nat.le_trans (szs_le (fun b p hp=>(h.fit.big b p hp).2) D.now) (Nat.mul_le_mul_right _ h.fit.now_few));have H0:∀w1,Itr w1 gN w.heap.size (vs D.now) (vs D.now)->Below w.heap.size w w1->Aside (Us D gN w.heap.size w D.now 0 w1):=fun w1 h1 h2=>⟨by rw[Nat.zero_add];rfl,h1,h.fit.wfN,h2⟩
 have HLn:=Lib.hid (show D.now.length<=200 from h.fit.now_few);clear h
 go_enter Tryz.func75, Tryz.ntmps75
 go_wp2_with (at_range;refine wpList_rangeS Tryz.underlying72 HM.out _ ?_;intro w1 hit1 hb1 hs1)
 have H1:=H0 w1 hit1 hb1;clear hit1 hb1 hs1 H0 c0;go_frame
 go_loopg [3] 1000 (fun kx s3 wr=>∃(r:List (ByteArray×Nat)) (m:Nat),s3=.int .i64 (m:Int)/\Hid (r.length<=kx)/\Aside (Us D gN w.heap.size w r m wr))
 case atStart=>exact⟨D.now,0,rfl,by have:=HLn.out;exact Lib.hid (by omega),H1⟩
 case round =>
  clear H1;obtain⟨r,m,rfl,hk,HX⟩:=hrel;rcases r with _|⟨x0,r0⟩
  ·have hs:=HX.out.sum
   simp only[szs,Nat.add_zero] at hs;have HS:=Lib.hid hs;clear hs;go_wp2_with (at_next;refine wpList_nextS0 HX.out.it _ ?_)
   go_ret
   exact⟨by rw[HS.out];rfl,HX.out.below⟩
  ·go_wp2_with (at_next;refine wpList_nextS1 HX.out.it (by simp[vs]) _ ?_;intro c s z b w2 e2 hi2 hg2 hs2 hen;obtain⟨k,m2,r2,p,rfl,hc,hm2,hl2,H2⟩:=us_step HH.out HX.out e2 hi2 hg2;have HM2:=Lib.hid hm2;have hT2:=Nat.le_trans hm2.2 HT.out;have HL2:=Lib.hid hl2;have hw:wrap64 ((m:Int)+(p.2.size:Int))=(m:Int)+(p.2.size:Int):=(by unfold wrap64;omega);clear hm2 hT2 hl2 e2 hi2 hg2 hs2)
   go_roundg (gk-1)
   case measure=>have:=HL2.out;have:=hk.out;omega
   case rel=>exact⟨r2,m2,by rw[HM2.out.1];go_num,by have:=HL2.out;have:=hk.out;exact Lib.hid (by omega),H2⟩
end
end Dk
end Go.Proofs.YtlnbjikooadmoaaGreat
namespace Go.Proofs.YtlnbjikooadmoaaGreat
open Go.RowKit
structure Bw (w:World) where
 to:World
 h:Below w.heap.size w to
instance (w:World):Inhabited (Bw w):=⟨⟨w,Below.refl _ _⟩⟩
theorem Bw.cell {w:World} (p:Bw w) {b k:Nat} {v:Value} (hb:b<w.heap.size) (h:w.cell? ⟨b,k,none⟩=some v):p.to.cell? ⟨b,k,none⟩=some v:=(p.h.cell (p:=⟨b,k,none⟩) hb).trans h
theorem Bw.cellAt {w:World} (p:Bw w) {a:Addr} {v:Value} (hb:a.block<w.heap.size) (h:w.cell? a=some v):p.to.cell? a=some v:=(p.h.cell hb).trans h
theorem wp_region_quiet_below {P:Program} {id:Nat} {Q:Exit->Act->World->Prop} {a:Act} {w:World} {l:List Oper} (hm:P.follows .mixedOrders=true) (hB:Region.lexB .any l.toArray=true)
  (h:wpQuiet P l.toArray (fun w'=>∃p:Bw w,w'=p.to) (fun a'=>∀w',(∃p:Bw w,w'=p.to)->Q .normal a' w') l a):(Code.region id l.toArray true).wp P Q a w :=
 wp_region_quiet (C:=fun w'=>∃p:Bw w,w'=p.to) hm hB ⟨⟨{ w with drawn:=w.drawn+1 },⟨rfl,rfl,rfl,Nat.le_refl _,fun _ _=>rfl⟩⟩,rfl⟩ (by simpa using h)
theorem below_of {P:Program} {f:FuncId} {args:Array Value} {w:World} {p:Bw w} {v:Value} (h:Calls P f args p.to fun e w'=>e=.returned v/\Below p.to.heap.size p.to w') :
  Calls P f args p.to fun e w'=>e=.returned v/\ ∃q:Bw w,w'=q.to :=
 h.mono fun _ w' ⟨he,hb⟩=>⟨he,⟨w',p.h.trans (hb.mono p.h.size)⟩,rfl⟩
end Go.Proofs.YtlnbjikooadmoaaGreat
namespace Go.Proofs.YtlnbjikooadmoaaGreat
namespace Dk
open Go.RowKit
section
variable {w w':World} {S:Nat->Prop} {bd gN gS:Nat} {v:Value} {D:DS}
set_option maxHeartbeats 3200000 in
set_option maxRecDepth 100000 in
theorem sync1_any (h:DiskAt w S bd D) {b cf:Nat} {p:ByteArray×ByteArray} (hp:D.fl b=some p) (hc:cf<w.heap.size) (hcs: ¬ S cf) (hf:w.cell? ⟨cf,0,none⟩=some (.pointer (some ⟨b,0,none⟩))) :
  Calls Tryz.prog 107 #[.pointer (some ⟨cf,0,none⟩)] w fun e w'=>e=.returned (.tuple #[])/\ ∃S2,DiskAt w' S2 bd (setF b (p.2,p.2) D)/\Gr S w S2 w':=by
 have mixed:Tryz.prog.follows .mixedOrders=true:=by kernel_rfl
 obtain⟨gN,gS,v,h⟩:=h;have hB:=h.fl b p hp;have sb:=h.sF b p hp;have b0:=hB.cell 0 rfl;have b1:=hB.cell 1 rfl;have HSO:=Lib.hid (show ∀wx,Below w.heap.size w wx->(fun wx=>wx.cell? ⟨cf,0,none⟩=some (.pointer (some ⟨b,0,none⟩))/\wx.frozen? ⟨b,0,none⟩=false/\wx.frozen? ⟨b,1,none⟩=false) wx from fun wx hb =>
  ⟨(hb.cell (p:=⟨cf,0,none⟩) hc).trans hf,(hB.ext hb).fz 0,(hB.ext hb).fz 1⟩)
 have HS0:=Lib.hid (HSO.out w.drew ⟨rfl,rfl,rfl,Nat.le_refl _,fun _ _=>rfl⟩);have HB0:=Lib.hid (show Below w.heap.size w w.drew from⟨rfl,rfl,rfl,Nat.le_refl _,fun _ _=>rfl⟩);have HC:=Lib.hid (show ∀wx,Below w.heap.size w wx->wx.cell? ⟨b,0,none⟩=some (.string p.1)/\wx.cell? ⟨b,1,none⟩=some (.string p.2) from fun wx hb=>⟨(hB.ext hb).cell 0 rfl,(hB.ext hb).cell 1 rfl⟩);have HS7:=Lib.hid (show ∀wx,Below w.heap.size w wx->(fun wx=>wx.cell? ⟨cf,0,none⟩=some (.pointer (some ⟨b,0,none⟩))/\wx.frozen? ⟨b,0,none⟩=false/\wx.frozen? ⟨b,1,none⟩=false) ((wx.setCell ⟨b,0,none⟩ (.string p.2)).setCell ⟨b,1,none⟩ (.string p.2)) from fun wx hb=>by
  have q:Blk ((wx.setCell ⟨b,0,none⟩ (.string p.2)).setCell ⟨b,1,none⟩ (.string p.2)) b #[.string p.2,.string p.2] 110:=((hB.ext hb).put 0 _).put 1 _;have hne:cf≠b:=by rintro rfl;exact hcs sb
  refine⟨?_,q.fz 0,q.fz 1⟩;rw[World.cell?_of_block (w:=wx) (a:=⟨cf,0,none⟩) (by rw[Below.heap_setCell _ ⟨b,1,none⟩ _ cf hne,Below.heap_setCell _ ⟨b,0,none⟩ _ cf hne])];exact(hb.cell (p:=⟨cf,0,none⟩) hc).trans hf)
 have HH:=Lib.hid (show ∀wx,Below w.heap.size w wx->Dat ((wx.setCell ⟨b,0,none⟩ (.string p.2)).setCell ⟨b,1,none⟩ (.string p.2)) S bd gN gS v (setF b (p.2,p.2) D)/\Gr S w S ((wx.setCell ⟨b,0,none⟩ (.string p.2)).setCell ⟨b,1,none⟩ (.string p.2)) from fun wx hb=>by
  have h':=h.ext hb;have hbg:=(h.fit.big b p hp).2;exact⟨h'.bytes (by simp) (fun k _ hk=>by rw[Below.heap_setCell _ ⟨b,1,none⟩ _ k hk,Below.heap_setCell _ ⟨b,0,none⟩ _ k hk]) (by rw[hp];simp) (((hB.ext hb).put 0 _).put 1 _) hbg hbg,(Gr.of_below hb).trans ((Gr.setCell sb 0 _).trans (Gr.setCell sb 1 _))⟩)
 have HF:=Lib.hid (fun w=>fsync_any p.1 p.2 w);unfold fagg at HF;clear h hB hp hf
 go_enter Tryz.func107, Tryz.ntmps107
 have k2:=HS0.out.1;go_region_with (first
  |(go_at_call 101;refine(HF.out _).mono ?_;rintro e5 w5 ⟨rfl,hb5⟩;have hb6:=HB0.out.trans (hb5.mono HB0.out.size);have hS5:=HSO.out _ hb6;have k0:=(HC.out _ hb6).1;have k1:=(HC.out _ hb6).2;have k3:=hS5.1;have k4:=hS5.2.1;have k5:=hS5.2.2))
 all_goals go_end0
 all_goals exact⟨rfl,S,⟨gN,gS,v,(HH.out _ hb6).1⟩,(HH.out _ hb6).2⟩
end
end Dk
end Go.Proofs.YtlnbjikooadmoaaGreat
namespace Go.Proofs.YtlnbjikooadmoaaGreat
namespace Dk
open Go.RowKit
section
variable {w w':World} {S:Nat->Prop} {bd gN gS:Nat} {v:Value} {D:DS}
structure Ap (w:World) (S:Nat->Prop) (bd cf cg b:Nat) (p:ByteArray×ByteArray) (D:DS) (wx:World):Prop where
 disk:DiskAt wx S bd D
 gr:Gr S w S wx
 vf:Blk wx cf #[.pointer (some ⟨b,0,none⟩)] 103
 vg:Blk wx cg #[.string p.1,.string p.2] 110
 nf: ¬ S cf
 ng: ¬ S cg
theorem Ap.ext {cf cg b:Nat} {p:ByteArray×ByteArray} {wx wy:World} (h:Ap w S bd cf cg b p D wx) (hb:Below wx.heap.size wx wy):Ap w S bd cf cg b p D wy :=
 ⟨h.disk.ext hb,h.gr.trans (Gr.of_below hb),h.vf.ext hb,h.vg.ext hb,h.nf,h.ng⟩
theorem ap_new (h:DiskAt w S bd D) (b:Nat) (p:ByteArray×ByteArray) {w2:World} (hb:Below (w.alloc (.cells #[.pointer (some ⟨b,0,none⟩)] 103)).heap.size (w.alloc (.cells #[.pointer (some ⟨b,0,none⟩)] 103)) w2) :
  Ap w S bd w.heap.size w2.heap.size b p D (w2.alloc (.cells #[.string p.1,.string p.2] 110)):=by
 obtain⟨gN,gS,v,h⟩:=h;have h1:Below w.heap.size w w2:=(ext_alloc w _).trans (hb.mono (by simp));refine⟨⟨gN,gS,v,(h.ext h1).ext (ext_alloc w2 _)⟩,(Gr.of_below h1).trans (Gr.of_below (ext_alloc w2 _)),((Blk.new w _ _).ext hb).alloc _,Blk.new w2 _ _,h.gt (Nat.le_refl _),h.gt h1.size⟩
theorem op_file {fid:FuncId} {cf cg b:Nat} {p:ByteArray×ByteArray} {wx:World} (hen:∀args w,(callFunc fid args).run Tryz.prog w=.ok (.enter fid args) w)
  (hc:∀(w1:World) (D1:DS),DiskAt w1 S bd D1->D1.fl b≠none->Blk w1 cg #[.string p.1,.string p.2] 110->w1.cell? ⟨cf,0,none⟩=some (.pointer (some ⟨b,0,none⟩))->Calls Tryz.prog fid #[.pointer (some ⟨cg,0,none⟩),.pointer (some ⟨cf,0,none⟩)] w1 fun e w'=>e=.returned (.tuple #[])/\ ∃S2,DiskAt w' S2 bd (setF b p D1)/\Gr S w1 S2 w')
  (h:Ap w S bd cf cg b p D wx) (hb:D.fl b≠none) :
  Calls Tryz.prog 51 #[.pointer (some ⟨bd,0,none⟩),.bool false,.func (.func fid) #[] #[.pointer (some ⟨cg,0,none⟩),.pointer (some ⟨cf,0,none⟩)]] wx fun e w'=>e=.returned (.int .i64 (opE D))/\ ∃S',DiskAt w' S' bd (opS false (setF b p) D)/\Gr S w S' w':=by
 refine(op_any false fid #[] #[.pointer (some ⟨cg,0,none⟩),.pointer (some ⟨cf,0,none⟩)] (setF b p) h.disk hen fun w1 h1 g1=>?_).mono ?_
 ·exact hc w1 (tick D) h1 hb (g1.blk h.vg h.ng) ((g1.blk h.vf h.nf).cell 0 rfl)
 ·rintro e w' ⟨rfl,S',h2,g2⟩
  exact⟨rfl,S',h2,h.gr.trans g2⟩
set_option maxHeartbeats 3200000 in
set_option maxRecDepth 100000 in
theorem append_go (h:DiskAt w S bd D) {s text:ByteArray} {b:Nat} {p:ByteArray×ByteArray} (ho:D.off=false) (hl:lk s D.now=some b) (hp:D.fl b=some p) (h1:p.2.size+text.size<=1000000) (h2:(text.size:Int)+(usedD D:Int)<=D.cap) :
  Calls Tryz.prog 28 #[.pointer (some ⟨bd,0,none⟩),.string s,.string text] w fun e w'=>e=.returned (.int .i64 (opE D))/\ ∃S',DiskAt w' S' bd (opS false (setF b (p.1,p.2++text)) D)/\Gr S w S' w':=by
 have mixed:Tryz.prog.follows .mixedOrders=true:=by kernel_rfl
 have hF:=find_any h s;unfold findP at hF;rw[ho,hl] at hF;simp only[Bool.false_eq_true,if_false] at hF;unfold ptr at hF;have HA:=Lib.hid (fun w=>fapp_ok p.1 p.2 text w h1);unfold fagg at HA;have HN:=Lib.hid (fun w2 hb=>ap_new h b (p.1,p.2++text) (w2:=w2) hb);have HO:=Lib.hid (fun(cf cg:Nat) (wx:World) (ha:Ap w S bd cf cg b (p.1,p.2++text) D wx)=>op_file (enters_of Tryz.func76 (by kernel_rfl) rfl) (fun w1 D1 q1 q2 q3 q4=>app1_any q1 q2 q3 q4 (by
  obtain⟨gN,gS,v,h⟩:=h;exact(h.fit.big b p hp).1) (by rw[ByteArray.size_append];exact h1)) ha (by rw[hp];simp))
 have HU:=Lib.hid (fun(wx:World) (hd:DiskAt wx S bd D)=>used_any hd);have hcp:0<=D.cap/\D.cap<=10000000:=by
  obtain⟨gN,gS,v,h⟩:=h;exact⟨h.fit.cap0,h.fit.cap1⟩
 have HC3:=Lib.hid (fun(wx:World) (hd:DiskAt wx S bd D)=>show wx.cell? ⟨bd,3,none⟩=some (.int .i64 D.cap) from by
  obtain⟨gN,gS,v,hd⟩:=hd;exact hd.c3)
 have HGT:=Lib.hid (show decide (IntKind.i64.wrap (D.cap-(usedD D:Int))<(text.size:Int))=false from by
  rw[wrap_in (by omega) (by omega)];exact decide_eq_false (by omega))
 obtain⟨gN,gS,v,h⟩:=h;have hB:=h.fl b p hp;have b0:=hB.cell 0 (v:=.string p.1) rfl;have b1:=hB.cell 1 (v:=.string p.2) rfl;have lB:=hB.lt;clear h hB hp hl ho h1 h2;generalize p.2++text=T at *
 generalize usedD D=U at *
 generalize D.cap=C at *
 go_enter Tryz.func28, Tryz.ntmps28
 go_wp2_with (first
  |(go_at_call 73;refine hF.mono ?_;rintro e1 w1 ⟨rfl,rfl⟩)
  |(go_at_call 74;refine(HA.out _).mono ?_;rintro e2 w2 ⟨rfl,hb2⟩;have HA2:=Lib.hid (HN.out w2 hb2);clear hb2))
 generalize w2.alloc (.cells #[.string p.1,.string T] 110)=w3 at *
 have k3:∀q:Bw w3,q.to.cell? ⟨bd,3,none⟩=some (.int .i64 C):=fun q=>HC3.out _ (HA2.out.disk.ext q.h)
 have HU2:=Lib.hid (fun q:Bw w3=>HU.out q.to (HA2.out.disk.ext q.h));refine wp_region_quiet_below (by assumption) (by kernel_rfl) ?_
 repeat (first|go_big_quiet_skip|quiet_step (first|(go_at_call 75;refine below_of (HU2.out _))))
 refine wpQuiet_nil ?_;intro _ hw';obtain⟨q,rfl⟩:=hw';have HO2:=Lib.hid (HO.out _ _ q.to (HA2.out.ext q.h));clear k3 HU2;rw[HGT.out];go_wp2_with (go_at_call 51;refine HO2.out.mono ?_;rintro e5 w5 ⟨rfl,S5,hD5,hG5⟩;have HD5:=Lib.hid hD5;have HG5:=Lib.hid hG5;clear hD5 hG5)
 go_ret
 exact⟨rfl,S5,HD5.out,HG5.out⟩
end
end Dk
end Go.Proofs.YtlnbjikooadmoaaGreat
namespace Go.Proofs.YtlnbjikooadmoaaGreat
namespace Dk
open Go.RowKit
section
variable {w w':World} {S:Nat->Prop} {bd gN gS:Nat} {v:Value} {D:DS}
set_option maxHeartbeats 3200000 in
set_option maxRecDepth 100000 in
theorem sync_go (h:DiskAt w S bd D) {s:ByteArray} {b:Nat} {p:ByteArray×ByteArray} (ho:D.off=false) (hl:lk s D.now=some b) (hp:D.fl b=some p) :
  Calls Tryz.prog 64 #[.pointer (some ⟨bd,0,none⟩),.string s] w fun e w'=>e=.returned (.int .i64 (opE D))/\ ∃S',DiskAt w' S' bd (opS true (setF b (p.2,p.2)) D)/\Gr S w S' w':=by
 have hF:=find_any h s;unfold findP at hF;rw[ho,hl] at hF;simp only[Bool.false_eq_true,if_false] at hF;unfold ptr at hF;have HO:=Lib.hid (show Calls Tryz.prog 51 #[.pointer (some ⟨bd,0,none⟩),.bool true,.func (.func 107) #[] #[.pointer (some ⟨w.heap.size,0,none⟩)]] (w.alloc (.cells #[.pointer (some ⟨b,0,none⟩)] 103)) fun e w'=>e=.returned (.int .i64 (opE D))/\ ∃S',DiskAt w' S' bd (opS true (setF b (p.2,p.2)) D)/\Gr S w S' w' from by
  have hn: ¬ S w.heap.size:=by
   obtain⟨gN,gS,v,h⟩:=h;exact h.gt (Nat.le_refl _)
  have hB:=Blk.new w #[.pointer (some ⟨b,0,none⟩)] 103;refine(op_any true 107 #[] #[.pointer (some ⟨w.heap.size,0,none⟩)] (setF b (p.2,p.2)) (h.ext (ext_alloc w _)) (enters_of Tryz.func107 (by kernel_rfl) rfl) fun w1 h1 g1=>?_).mono ?_
  ·have hB1:=g1.blk hB hn
   exact sync1_any h1 hp hB1.lt hn (hB1.cell 0 rfl)
  ·rintro e w' ⟨rfl,S',h2,g2⟩
   exact⟨rfl,S',h2,(Gr.alloc _).trans g2⟩)
 clear h hp hl ho
 go_enter Tryz.func64, Tryz.ntmps64
 go_wp2_with (first
  |(go_at_call 73;refine hF.mono ?_;rintro e1 w1 ⟨rfl,rfl⟩)
  |(go_at_call 51;refine HO.out.mono ?_;rintro e5 w5 ⟨rfl,S5,hD5,hG5⟩;have HD5:=Lib.hid hD5;have HG5:=Lib.hid hG5;clear hD5 hG5))
 go_ret
 exact⟨rfl,S5,HD5.out,HG5.out⟩
set_option maxHeartbeats 3200000 in
set_option maxRecDepth 100000 in
theorem cut_go (h:DiskAt w S bd D) {s:ByteArray} {n:Nat} {b:Nat} {p:ByteArray×ByteArray} (ho:D.off=false) (hl:lk s D.now=some b) (hp:D.fl b=some p) (h1:n<=p.2.size) :
  Calls Tryz.prog 62 #[.pointer (some ⟨bd,0,none⟩),.string s,.int .i64 (n:Int)] w fun e w'=>e=.returned (.int .i64 (opE D))/\ ∃S',DiskAt w' S' bd (opS false (setF b (p.1,p.2.extract 0 n)) D)/\Gr S w S' w':=by
 have hF:=find_any h s;unfold findP at hF;rw[ho,hl] at hF;simp only[Bool.false_eq_true,if_false] at hF;unfold ptr at hF;have hbg:p.1.size<=1000000/\p.2.size<=1000000:=by
  obtain⟨gN,gS,v,h⟩:=h;exact h.fit.big b p hp
 have HA:=Lib.hid (fun w=>fcut_ok p.1 p.2 n w hbg.2 h1);unfold fagg at HA;have HN:=Lib.hid (fun w2 hb=>ap_new h b (p.1,p.2.extract 0 n) (w2:=w2) hb);have HO:=Lib.hid (fun(cf cg:Nat) (wx:World) (ha:Ap w S bd cf cg b (p.1,p.2.extract 0 n) D wx)=>op_file (enters_of Tryz.func104 (by kernel_rfl) rfl) (fun w1 D1 q1 q2 q3 q4=>cut1_any (p:=(p.1,p.2.extract 0 n)) q1 q2 q3 q4 hbg.1 (by rw[ByteArray.size_extract];omega)) ha (by rw[hp];simp));obtain⟨gN,gS,v,h⟩:=h;have hB:=h.fl b p hp;have b0:=hB.cell 0 (v:=.string p.1) rfl;have b1:=hB.cell 1 (v:=.string p.2) rfl;have lB:=hB.lt;clear h hB hp hl ho h1 hbg;generalize p.2.extract 0 n=T at *
 go_enter Tryz.func62, Tryz.ntmps62
 go_wp2_with (first
  |(go_at_call 73;refine hF.mono ?_;rintro e1 w1 ⟨rfl,rfl⟩)
  |(go_at_call 103;refine(HA.out _).mono ?_;rintro e2 w2 ⟨rfl,hb2⟩;have HA2:=Lib.hid (HO.out _ _ _ (HN.out w2 hb2));clear hb2)
  |(go_at_call 51;refine HA2.out.mono ?_;rintro e5 w5 ⟨rfl,S5,hD5,hG5⟩;have HD5:=Lib.hid hD5;have HG5:=Lib.hid hG5;clear hD5 hG5))
 go_ret
 exact⟨rfl,S5,HD5.out,HG5.out⟩
end
end Dk
end Go.Proofs.YtlnbjikooadmoaaGreat
namespace Go.Proofs.YtlnbjikooadmoaaGreat
namespace Nm
open Go.RowKit
theorem conv6 (w:World) (a b c d e f:Int):(convert 96 9 (.slice (some ⟨w.heap.size,0,none⟩) 6 6)).run Tryz.prog (w.alloc (.cells #[.int .u8 a,.int .u8 b,.int .u8 c,.int .u8 d,.int .u8 e,.int .u8 f] 5)) =
  .ok (.string (strOfNums [a,b,c,d,e,f])) (w.alloc (.cells #[.int .u8 a,.int .u8 b,.int .u8 c,.int .u8 d,.int .u8 e,.int .u8 f] 5)):=by
 refine run_convert_bytes_arg _ 96 5 Tryz.underlying96 Tryz.underlying5 w.heap.size 0 6 6 [a,b,c,d,e,f] rfl ?_ 9 Tryz.underlying9;intro i hi;have:i=0∨i=1∨i=2∨i=3∨i=4∨i=5:=by omega
 rcases this with rfl|rfl|rfl|rfl|rfl|rfl<;>simp[go_sem]
set_option maxHeartbeats 400000 in
theorem number_any (n:Int) (h1:1<=n) (h2:n<=999999) (w:World) :
  Calls Tryz.prog 111 #[.int .i64 n] w fun e w'=>e=.returned (.string ⟨(num6 n).toArray⟩)/\Below w.heap.size w w':=by
 have hmk:∀w,(Instr.makeSlice 96 (.int .i64 6) (.int .i64 6)).run Tryz.prog w=.ok (.slice (some ⟨w.heap.size,0,none⟩) 6 6) (w.alloc (.cells #[.int .u8 0,.int .u8 0,.int .u8 0,.int .u8 0,.int .u8 0,.int .u8 0] 5)):=fun _=>by kernel_rfl
 have hcv:=conv6
 go_enter Tryz.func111, Tryz.ntmps111
 go_wp2
 go_rounds 7
 go_wp2
 go_ret
 refine⟨ret_str rfl,(Below.refl _ _).alloc (Nat.le_refl _) _⟩
set_option maxHeartbeats 400000 in
theorem may_any (n:Int) (w:World):Calls Tryz.prog 110 #[.int .i64 n] w fun e w'=>e=.returned (.bool (may n))/\w=w':=by
 go_enter Tryz.func110, Tryz.ntmps110
 go_wp2
 all_goals
  go_ret
  refine⟨ret_bool ?_,rfl⟩;unfold may;rw[Bool.eq_iff_iff];simp
  try omega
def segV (i g:Int):Value:=if may i=true/\may g=true then .tuple #[.string ⟨(seg i g).toArray⟩,.int .i64 0] else .tuple #[.string ⟨#[]⟩,.int .i64 2]
theorem seg_bytes (i g:Int):(((ByteArray.mk #[115,101,103,45]++ByteArray.mk (num6 i).toArray)++ByteArray.mk #[45])++ByteArray.mk (num6 g).toArray)++ByteArray.mk #[46,108,111,103]=⟨(seg i g).toArray⟩:=rfl
theorem size_num6 (n:Int):(num6 n).toArray.size=6:=rfl
set_option maxHeartbeats 400000 in
theorem segment_any (i g:Int) (w:World):Calls Tryz.prog 78 #[.int .i64 i,.int .i64 g] w fun e w'=>e=.returned (segV i g)/\Below w.heap.size w w':=by
 by_cases hi:may i=true
 ·by_cases hg:may g=true
  ·have e0:segV i g=.tuple #[.string ⟨(seg i g).toArray⟩,.int .i64 0]:=if_pos ⟨hi,hg⟩
   rw[e0,<-seg_bytes];have hi':=(may_iff i).1 hi;have hg':=(may_iff g).1 hg;have Hi:=Lib.hid hi;have Hg:=Lib.hid hg;clear hi hg e0;have hs:=fun n=>size_num6 n
   go_enter Tryz.func78, Tryz.ntmps78
   go_wp2_with fail
   refine(may_any i _).mono ?_;rintro e w' ⟨rfl,rfl⟩;rw[Hi.out];go_wp2_with fail
   refine(may_any g _).mono ?_;rintro e w' ⟨rfl,rfl⟩;rw[Hg.out];go_wp2_with fail
   refine(number_any i (by omega) (by omega) _).mono ?_;rintro e w1 ⟨rfl,hb1⟩;go_wp2_with fail
   refine(number_any g (by omega) (by omega) _).mono ?_;rintro e w2 ⟨rfl,hb2⟩;go_wp2_with fail
   go_ret2
   exact⟨rfl,hb1.trans (hb2.mono hb1.size)⟩
  ·have e0:segV i g=.tuple #[.string ⟨#[]⟩,.int .i64 2]:=if_neg (by simp[hg])
   rw[e0];simp only[Bool.not_eq_true] at hg;have Hi:=Lib.hid hi;have Hg:=Lib.hid hg;clear hi hg e0
   go_enter Tryz.func78, Tryz.ntmps78
   go_wp2_with fail
   refine(may_any i _).mono ?_;rintro e w' ⟨rfl,rfl⟩;rw[Hi.out];go_wp2_with fail
   refine(may_any g _).mono ?_;rintro e w' ⟨rfl,rfl⟩;rw[Hg.out];go_wp2_with fail
   go_ret2
   exact⟨rfl,Below.refl _ _⟩
 ·have e0:segV i g=.tuple #[.string ⟨#[]⟩,.int .i64 2]:=if_neg (by simp[hi])
  rw[e0];simp only[Bool.not_eq_true] at hi;have Hi:=Lib.hid hi;clear hi e0
  go_enter Tryz.func78, Tryz.ntmps78
  go_wp2_with (go_at_call 110;refine(may_any i _).mono ?_;rintro e w' ⟨rfl,rfl⟩;rw[Hi.out])
  go_ret2
  exact⟨rfl,Below.refl _ _⟩
end Nm
end Go.Proofs.YtlnbjikooadmoaaGreat
namespace Go.Proofs.YtlnbjikooadmoaaGreat
namespace Hd
open Go.RowKit
def inB (n a b:Int):Bool:=decide (a<=n)&&decide (n<=b)
theorem inB_iff (n a b:Int):inB n a b=true↔a<=n/\n<=b:=by simp[inB]
theorem within_any (n a b:Int) (w:World):Calls Tryz.prog 109 #[.int .i64 n,.int .i64 a,.int .i64 b] w fun e w'=>e=.returned (.bool (inB n a b))/\w=w':=by
 have e1:∀{x y:Bool},decide (a<=n)=x->decide (n<=b)=y->inB n a b=(x&&y):=fun hx hy=>by unfold inB;rw[hx,hy]
 by_cases h1:a<=n
 ·by_cases h2:n<=b
  ·have hd:=e1 (decide_eq_true h1) (decide_eq_true h2)
   generalize inB n a b=r at *
   have HD:=Lib.hid hd;clear hd e1
   go_enter Tryz.func109, Tryz.ntmps109
   go_wp2_with fail
   go_ret
   exact⟨by rw[HD.out];rfl,rfl⟩
  ·have hd:=e1 (decide_eq_true h1) (decide_eq_false h2)
   generalize inB n a b=r at *
   have HD:=Lib.hid hd;clear hd e1
   go_enter Tryz.func109, Tryz.ntmps109
   go_wp2_with fail
   go_ret
   exact⟨by rw[HD.out];rfl,rfl⟩
 ·have hd:inB n a b=false:=by unfold inB;rw[decide_eq_false h1];rfl
  generalize inB n a b=r at *
  have HD:=Lib.hid hd;clear hd e1
  go_enter Tryz.func109, Tryz.ntmps109
  go_wp2_with fail
  go_ret
  exact⟨by rw[HD.out];rfl,rfl⟩
def okH (i g f:Int):Bool:=decide (1<=i/\i<=999999/\1<=g/\g<=999999/\1<=f/\f<=1000000000)
theorem inB_no {n a b:Int} (h: ¬ (a<=n/\n<=b)):inB n a b=false:=by
 cases h2:inB n a b with
 |false=>rfl
 |true=>exact absurd ((inB_iff ..).1 h2) h
set_option maxHeartbeats 1600000 in
set_option maxRecDepth 100000 in
theorem check_yes (i g f:Int) (w:World) (h:1<=i/\i<=999999/\1<=g/\g<=999999/\1<=f/\f<=1000000000) :
  Calls Tryz.prog 77 #[.agg #[.int .i64 i,.int .i64 g,.int .i64 f]] w fun e w'=>e=.returned (.int .i64 0)/\Below w.heap.size w w':=by
 have mixed:Tryz.prog.follows .mixedOrders=true:=by kernel_rfl
 have H1:=Lib.hid (fun(wx:World)=>(within_any i 1 999999 wx).mono (R':=fun e w'=>e=.returned (.bool true)/\wx=w') (fun e w' hh=>⟨by rw[hh.1,(inB_iff ..).2 (by omega)],hh.2⟩));have H2:=Lib.hid (fun(wx:World)=>(within_any g 1 999999 wx).mono (R':=fun e w'=>e=.returned (.bool true)/\wx=w') (fun e w' hh=>⟨by rw[hh.1,(inB_iff ..).2 (by omega)],hh.2⟩));have H3:=Lib.hid (fun(wx:World)=>(within_any f 1 1000000000 wx).mono (R':=fun e w'=>e=.returned (.bool true)/\wx=w') (fun e w' hh=>⟨by rw[hh.1,(inB_iff ..).2 (by omega)],hh.2⟩));clear h;have HB:=Lib.hid (ext_alloc w (.cells #[.int .i64 i,.int .i64 g,.int .i64 f] 33))
 go_enter Tryz.func77, Tryz.ntmps77
 go_wp2_with fail
 refine(H1.out _).mono ?_;rintro e1 w1 ⟨rfl,rfl⟩;go_wp2_with fail
 refine(H2.out _).mono ?_;rintro e2 w2 ⟨rfl,rfl⟩;go_wp2_with fail
 refine(H3.out _).mono ?_;rintro e3 w3 ⟨rfl,rfl⟩;go_wp2_with fail
 go_ret
 exact⟨rfl,HB.out⟩
set_option maxHeartbeats 1600000 in
set_option maxRecDepth 100000 in
theorem check_no1 (i g f:Int) (w:World) (h: ¬ (1<=i/\i<=999999)) :
  Calls Tryz.prog 77 #[.agg #[.int .i64 i,.int .i64 g,.int .i64 f]] w fun e w'=>e=.returned (.int .i64 210)/\Below w.heap.size w w':=by
 have mixed:Tryz.prog.follows .mixedOrders=true:=by kernel_rfl
 have H1:=Lib.hid (fun(wx:World)=>(within_any i 1 999999 wx).mono (R':=fun e w'=>e=.returned (.bool false)/\wx=w') (fun e w' hh=>⟨by rw[hh.1,inB_no (by omega)],hh.2⟩));clear h;have HB:=Lib.hid (ext_alloc w (.cells #[.int .i64 i,.int .i64 g,.int .i64 f] 33))
 go_enter Tryz.func77, Tryz.ntmps77
 go_wp2_with fail
 refine(H1.out _).mono ?_;rintro e1 w1 ⟨rfl,rfl⟩;go_wp2_with fail
 go_ret
 exact⟨rfl,HB.out⟩
set_option maxHeartbeats 1600000 in
set_option maxRecDepth 100000 in
theorem check_no2 (i g f:Int) (w:World) (h1:1<=i/\i<=999999) (h: ¬ (1<=g/\g<=999999)) :
  Calls Tryz.prog 77 #[.agg #[.int .i64 i,.int .i64 g,.int .i64 f]] w fun e w'=>e=.returned (.int .i64 210)/\Below w.heap.size w w':=by
 have mixed:Tryz.prog.follows .mixedOrders=true:=by kernel_rfl
 have H1:=Lib.hid (fun(wx:World)=>(within_any i 1 999999 wx).mono (R':=fun e w'=>e=.returned (.bool true)/\wx=w') (fun e w' hh=>⟨by rw[hh.1,(inB_iff ..).2 (by omega)],hh.2⟩));have H2:=Lib.hid (fun(wx:World)=>(within_any g 1 999999 wx).mono (R':=fun e w'=>e=.returned (.bool false)/\wx=w') (fun e w' hh=>⟨by rw[hh.1,inB_no (by omega)],hh.2⟩));clear h h1;have HB:=Lib.hid (ext_alloc w (.cells #[.int .i64 i,.int .i64 g,.int .i64 f] 33))
 go_enter Tryz.func77, Tryz.ntmps77
 go_wp2_with fail
 refine(H1.out _).mono ?_;rintro e1 w1 ⟨rfl,rfl⟩;go_wp2_with fail
 refine(H2.out _).mono ?_;rintro e2 w2 ⟨rfl,rfl⟩;go_wp2_with fail
 go_ret
 exact⟨rfl,HB.out⟩
set_option maxHeartbeats 1600000 in
set_option maxRecDepth 100000 in
theorem check_no3 (i g f:Int) (w:World) (h1:1<=i/\i<=999999) (h2:1<=g/\g<=999999) (h: ¬ (1<=f/\f<=1000000000)) :
  Calls Tryz.prog 77 #[.agg #[.int .i64 i,.int .i64 g,.int .i64 f]] w fun e w'=>e=.returned (.int .i64 210)/\Below w.heap.size w w':=by
 have mixed:Tryz.prog.follows .mixedOrders=true:=by kernel_rfl
 have H1:=Lib.hid (fun(wx:World)=>(within_any i 1 999999 wx).mono (R':=fun e w'=>e=.returned (.bool true)/\wx=w') (fun e w' hh=>⟨by rw[hh.1,(inB_iff ..).2 (by omega)],hh.2⟩));have H2:=Lib.hid (fun(wx:World)=>(within_any g 1 999999 wx).mono (R':=fun e w'=>e=.returned (.bool true)/\wx=w') (fun e w' hh=>⟨by rw[hh.1,(inB_iff ..).2 (by omega)],hh.2⟩));have H3:=Lib.hid (fun(wx:World)=>(within_any f 1 1000000000 wx).mono (R':=fun e w'=>e=.returned (.bool false)/\wx=w') (fun e w' hh=>⟨by rw[hh.1,inB_no (by omega)],hh.2⟩));clear h h1 h2;have HB:=Lib.hid (ext_alloc w (.cells #[.int .i64 i,.int .i64 g,.int .i64 f] 33))
 go_enter Tryz.func77, Tryz.ntmps77
 go_wp2_with fail
 refine(H1.out _).mono ?_;rintro e1 w1 ⟨rfl,rfl⟩;go_wp2_with fail
 refine(H2.out _).mono ?_;rintro e2 w2 ⟨rfl,rfl⟩;go_wp2_with fail
 refine(H3.out _).mono ?_;rintro e3 w3 ⟨rfl,rfl⟩;go_wp2_with fail
 go_ret
 exact⟨rfl,HB.out⟩
theorem check_any (i g f:Int) (w:World) :
  Calls Tryz.prog 77 #[.agg #[.int .i64 i,.int .i64 g,.int .i64 f]] w fun e w'=>e=.returned (.int .i64 (if okH i g f=true then 0 else 210))/\Below w.heap.size w w':=by
 have hk:okH i g f=true↔1<=i/\i<=999999/\1<=g/\g<=999999/\1<=f/\f<=1000000000:=by simp[okH]
 by_cases h:okH i g f=true
 ·rw[if_pos h]
  exact check_yes i g f w (hk.1 h)
 ·rw[if_neg h]
  rw[hk] at h;by_cases h1:1<=i/\i<=999999
  ·by_cases h2:1<=g/\g<=999999
   ·exact check_no3 i g f w h1 h2 (by omega)
   ·exact check_no2 i g f w h1 h2
  ·exact check_no1 i g f w h1
end Hd
end Go.Proofs.YtlnbjikooadmoaaGreat
namespace Go.Proofs.YtlnbjikooadmoaaGreat
namespace Dk
open Go.RowKit Hd
def sgc (bd:Nat) (i g f:Int) (s:ByteArray):Array Value:=#[.pointer (some ⟨bd,0,none⟩),.int .i64 i,.int .i64 g,.int .i64 f,.string s]
def segN (i g:Int):ByteArray:=⟨(Nm.seg i g).toArray⟩
theorem sg_info:(Tryz.prog.info? 77).map (·.size)=some 5:=by kernel_rfl
section
variable {w w':World} {S:Nat->Prop} {bd gN gS:Nat} {v:Value} {D:DS}
set_option maxHeartbeats 3200000 in
set_option maxRecDepth 100000 in
theorem of_ok (i g f:Int) (w:World) (h:okH i g f=true) :
  Calls Tryz.prog 30 #[.pointer (some ⟨bd,0,none⟩),.agg #[.int .i64 i,.int .i64 g,.int .i64 f]] w fun e w'=>e=.returned (.tuple #[.agg (sgc bd i g f (segN i g)),.int .i64 0])/\Below w.heap.size w w':=by
 have HC:=Lib.hid (fun w=>check_any i g f w);rw[h] at HC;simp only[if_true] at HC;have hm:Nm.may i=true/\Nm.may g=true:=by
  simp only[okH,decide_eq_true_eq] at h;rw[Nm.may_iff,Nm.may_iff];omega
 have HN:=Lib.hid (fun w=>Nm.segment_any i g w);have e0:Nm.segV i g=.tuple #[.string (segN i g),.int .i64 0]:=if_pos hm;rw[e0] at HN;clear h hm e0;unfold sgc;generalize segN i g=s at *
 have B0:=(Blk.new w #[.int .i64 i,.int .i64 g,.int .i64 f] 33).alloc (.cells #[.pointer none,.int .i64 0,.int .i64 0,.int .i64 0,.string ⟨#[]⟩] 77);have B1:=blk_second w (.cells #[.int .i64 i,.int .i64 g,.int .i64 f] 33) #[.pointer none,.int .i64 0,.int .i64 0,.int .i64 0,.string ⟨#[]⟩] 77;have B2:=ext_second w (.cells #[.int .i64 i,.int .i64 g,.int .i64 f] 33) (.cells #[.pointer none,.int .i64 0,.int .i64 0,.int .i64 0,.string ⟨#[]⟩] 77)
 go_enter Tryz.func30, Tryz.ntmps30
 go_wp2_with (first
  |(go_at_call 77;refine(HC.out _).mono ?_;rintro e1 w1 ⟨rfl,hb1⟩;have HB1:=Lib.hid (B0.ext hb1);have HS1:=Lib.hid (B1.ext hb1);have HW1:=Lib.hid (B2.trans (hb1.mono B2.size));clear hb1 B0 B1 B2;have k0:=HB1.out.cell 0 (v:=.int .i64 i) rfl;have k1:=HB1.out.cell 1 (v:=.int .i64 g) rfl)
  |(go_at_call 78;refine(HN.out _).mono ?_;rintro e2 w2 ⟨rfl,hb2⟩;have HB2:=Lib.hid (HB1.out.ext hb2);have HS2:=Lib.hid (HS1.out.ext hb2);have HW2:=Lib.hid (HW1.out.trans (hb2.mono HW1.out.size));clear hb2 k0 k1;have k0:=HB2.out.cell 0 (v:=.int .i64 i) rfl;have k1:=HB2.out.cell 1 (v:=.int .i64 g) rfl;have k2:=HB2.out.cell 2 (v:=.int .i64 f) rfl)
  |(refine wpList_store_row rfl 77 (.tmp 4) (.tmp 26) rfl (w.heap.size+1) #[.pointer (some ⟨bd,0,none⟩),.int .i64 i,.int .i64 g,.int .i64 f,.string s] #[.pointer none,.int .i64 0,.int .i64 0,.int .i64 0,.string ⟨#[]⟩] (by simp[go_sem,Act.eval]) (by simp[go_sem,Act.eval]) HS2.out sg_info rfl (by simp[Value.oneCell']) ?_))
 refine bodyPost_ret (v:=.tuple #[.agg #[.pointer (some ⟨bd,0,none⟩),.int .i64 i,.int .i64 g,.int .i64 f,.string s],.int .i64 0]) (by exact results_cell2 rfl rfl rfl (HS2.out.set #[.pointer (some ⟨bd,0,none⟩),.int .i64 i,.int .i64 g,.int .i64 f,.string s]) Tryz.underlying77 rfl sg_info) (by exact rfl) ?_;exact⟨rfl,ext_setRow HW2.out (Nat.le_succ _) _⟩
set_option maxHeartbeats 3200000 in
set_option maxRecDepth 100000 in
theorem of_bad (i g f:Int) (w:World) (h:okH i g f=false) :
  Calls Tryz.prog 30 #[.pointer (some ⟨bd,0,none⟩),.agg #[.int .i64 i,.int .i64 g,.int .i64 f]] w fun e w'=>e=.returned (.tuple #[.agg #[.pointer none,.int .i64 0,.int .i64 0,.int .i64 0,.string ⟨#[]⟩],.int .i64 210])/\Below w.heap.size w w':=by
 have HC:=Lib.hid (fun w=>check_any i g f w);rw[h] at HC;simp only[Bool.false_eq_true,if_false] at HC;clear h;have B1:=blk_second w (.cells #[.int .i64 i,.int .i64 g,.int .i64 f] 33) #[.pointer none,.int .i64 0,.int .i64 0,.int .i64 0,.string ⟨#[]⟩] 77;have B2:=ext_second w (.cells #[.int .i64 i,.int .i64 g,.int .i64 f] 33) (.cells #[.pointer none,.int .i64 0,.int .i64 0,.int .i64 0,.string ⟨#[]⟩] 77)
 go_enter Tryz.func30, Tryz.ntmps30
 go_wp2_with (first
  |(go_at_call 77;refine(HC.out _).mono ?_;rintro e1 w1 ⟨rfl,hb1⟩;have HS2:=Lib.hid (B1.ext hb1);have HW2:=Lib.hid (B2.trans (hb1.mono B2.size));clear hb1 B1 B2)
  |(refine wpList_store_row rfl 77 (.tmp 4) (.tmp 13) rfl (w.heap.size+1) #[.pointer none,.int .i64 0,.int .i64 0,.int .i64 0,.string ⟨#[]⟩] #[.pointer none,.int .i64 0,.int .i64 0,.int .i64 0,.string ⟨#[]⟩] (by simp[go_sem,Act.eval]) (by simp[go_sem,Act.eval]) HS2.out sg_info rfl (by simp[Value.oneCell']) ?_))
 refine bodyPost_ret (v:=.tuple #[.agg #[.pointer none,.int .i64 0,.int .i64 0,.int .i64 0,.string ⟨#[]⟩],.int .i64 210]) (by exact results_cell2 rfl rfl rfl (HS2.out.set #[.pointer none,.int .i64 0,.int .i64 0,.int .i64 0,.string ⟨#[]⟩]) Tryz.underlying77 rfl sg_info) (by exact rfl) ?_;exact⟨rfl,ext_setRow HW2.out (Nat.le_succ _) _⟩
end
end Dk
end Go.Proofs.YtlnbjikooadmoaaGreat
