/- Maps keyed by texts, whatever their values: look-up, store, delete, len. Over any program. A disk's state, and what its calls do to it, as plain functions. No conditions. -/
import Derived.Test.YtejcdhdfanfkbaaGreatFb07
import Derived.ChangeMaps4
namespace Go.Proofs.YtejcdhdfanfkbaaGreat
open Go.RowKit Go.ChangeMaps Go.MapKept
def Mp (w:World) (g:Nat) (l:List (ByteArray×Value)):Prop :=
 ∃es clock,w.heap[g]? =some (.map es clock)/\Stamped es clock/\es.toList.map (fun e=>(e.key,e.val))=l.map (fun x=>(Value.string x.1,x.2))
theorem Mp.lt {w:World} {g:Nat} {l:List (ByteArray×Value)} (h:Mp w g l):g<w.heap.size:=by
 obtain⟨es,clock,h1,-⟩:=h;exact(Array.getElem?_eq_some_iff.1 h1).1
theorem Mp.same {w w':World} {g:Nat} {l:List (ByteArray×Value)} (h:Mp w g l) (hg:w'.heap[g]? =w.heap[g]?):Mp w' g l:=by
 obtain⟨es,clock,h1,h2⟩:=h;exact⟨es,clock,hg.trans h1,h2⟩
def find1 (s:ByteArray) (l:List (ByteArray×Value)):Option Value:=(l.find? fun x=>decide (x.1=s)).map (·.2)
def put1 (s:ByteArray) (v:Value):List (ByteArray×Value)->List (ByteArray×Value)
 | []=>[(s,v)]
 |x::l=>if x.1=s then(s,v)::l else x::put1 s v l
def del1 (s:ByteArray):List (ByteArray×Value)->List (ByteArray×Value)
 | []=>[]
 |x::l=>if x.1=s then l else x::del1 s l
theorem keys_at {es:List MapEntry} {l:List (ByteArray×Value)} (h:es.map (fun e=>(e.key,e.val))=l.map (fun x=>(Value.string x.1,x.2))) (j:Nat) :
  (es[j]?).map (fun e=>(e.key,e.val))=(l[j]?).map (fun x=>(Value.string x.1,x.2)):=by
 have:=congrArg (fun l=>l[j]?) h;simpa[List.getElem?_map] using this
theorem keys_str {es:List MapEntry} {l:List (ByteArray×Value)} (h:es.map (fun e=>(e.key,e.val))=l.map (fun x=>(Value.string x.1,x.2))):∀x∈es,IsKey .string x.key:=by
 intro x hx;obtain⟨j,hj,rfl⟩:=List.getElem_of_mem hx;have:=keys_at h j;rw[List.getElem?_eq_getElem hj] at this;rcases hl:l[j]? with _|y
 ·rw[hl] at this;cases this
 ·rw[hl] at this
  simp only[Option.map_some,Option.some.injEq,Prod.mk.injEq] at this;rw[this.1];trivial
theorem find_none:∀(l:List (ByteArray×Value)) (s:ByteArray),(∀x∈l,x.1≠s)->find1 s l=none/\put1 s=put1 s/\(∀v,put1 s v l=l++[(s,v)])/\del1 s l=l
 | [],s,_=>⟨rfl,rfl,fun _=>rfl,rfl⟩
 |x::l,s,h=>by
  obtain⟨h1,-,h2,h3⟩:=find_none l s fun y hy=>h y (List.mem_cons_of_mem _ hy)
  have hx:x.1≠s:=h x (List.mem_cons_self ..);refine⟨?_,rfl,fun v=>?_,?_⟩
  ·unfold find1 at h1 ⊢
   rw[List.find?_cons_of_neg (by simpa using hx)];exact h1
  ·rw[put1,if_neg hx,h2 v];rfl
  ·rw[del1,if_neg hx,h3]
theorem find_at:∀(l:List (ByteArray×Value)) (j:Nat) (s:ByteArray) (u:Value),(l.map (·.1)).Nodup->l[j]? =some (s,u)->find1 s l=some u/\(∀v,put1 s v l=l.set j (s,v))/\del1 s l=l.eraseIdx j
 | [],j,s,u,_,h=>by simp at h
 |x::l,0,s,u,_,h=>by
  simp only[List.getElem?_cons_zero,Option.some.injEq] at h;subst h;refine⟨?_,fun v=>?_,?_⟩
  ·unfold find1;rw[List.find?_cons_of_pos (by simp)];rfl
  ·rw[put1,if_pos rfl];rfl
  ·rw[del1,if_pos rfl];rfl
 |x::l,j+1,s,u,hn,h=>by
  rw[List.map_cons,List.nodup_cons] at hn;have hl:l[j]? =some (s,u):=by simpa using h
  obtain⟨h1,h2,h3⟩:=find_at l j s u hn.2 hl;have hx:x.1≠s:=fun e=>hn.1 (e▸List.mem_map.2 ⟨(s,u),List.mem_of_getElem? hl,rfl⟩)
  refine⟨?_,fun v=>?_,?_⟩
  ·unfold find1 at h1 ⊢
   rw[List.find?_cons_of_neg (by simpa using hx)];exact h1
  ·rw[put1,if_neg hx,h2 v];rfl
  ·rw[del1,if_neg hx,h3];rfl
theorem nodup_keys {es:Array MapEntry} {clock:Nat} {l:List (ByteArray×Value)} (hs:Stamped es clock) (h:es.toList.map (fun e=>(e.key,e.val))=l.map (fun x=>(Value.string x.1,x.2))):(l.map (·.1)).Nodup:=by
 have h1:=hs.2.2;have e1:es.toList.map (·.key)=l.map (fun x=>Value.string x.1):=by
  have:=congrArg (List.map Prod.fst) h;simpa[List.map_map,Function.comp_def] using this
 rw[e1] at h1;have e2:l.map (fun x=>Value.string x.1)=(l.map (·.1)).map Value.string:=by rw[List.map_map];rfl
 rw[e2] at h1;exact(List.pairwise_map.1 h1).imp fun {a b} hab e=>hab (by rw[e])
theorem find_spec {es:Array MapEntry} {clock:Nat} {l:List (ByteArray×Value)} (hs:Stamped es clock) (h:es.toList.map (fun e=>(e.key,e.val))=l.map (fun x=>(Value.string x.1,x.2))) (s:ByteArray) :
  (Instr.findNow .string (.string s) es.toList 0=some none/\(∀x∈es.toList,x.key≠.string s)/\ ∀x∈l,x.1≠s) ∨
  ∃j e,Instr.findNow .string (.string s) es.toList 0=some (some (j,e.val))/\es.toList[j]? =some e/\e.key=.string s/\l[j]? =some (s,e.val):=by
 rcases findNow_spec (d:=.string) (k:=.string s) trivial es.toList 0 (keys_str h) with ⟨h1,h2⟩|⟨j,e,h1,h2,h3⟩
 ·refine .inl ⟨h1,h2,fun x hx e=>?_⟩
  obtain⟨j,hj,rfl⟩:=List.getElem_of_mem hx;have:=keys_at h j;rw[List.getElem?_eq_getElem hj] at this;rcases he:es.toList[j]? with _|y
  ·rw[he] at this;cases this
  ·rw[he] at this
   simp only[Option.map_some,Option.some.injEq,Prod.mk.injEq] at this;exact h2 y (List.mem_of_getElem? he) (by rw[this.1,e])
 ·refine .inr ⟨j,e,by simpa using h1,h2,h3,?_⟩
  have:=keys_at h j;rw[h2] at this;rcases hl:l[j]? with _|y
  ·rw[hl] at this;cases this
  ·rw[hl] at this
   simp only[Option.map_some,Option.some.injEq,Prod.mk.injEq] at this;have e1:s=y.1:=by
    have:=h3.symm.trans this.1
    injection this
   rw[e1,this.2]
section
variable {P:Program} {w:World} {g:Nat} {l:List (ByteArray×Value)} {t k e:TypeId}
theorem run_lookupS (ht:P.underlying t=some (.map k e)) (hk:P.underlying k=some .string) {z:Value} (hz:(P.info? e).map (·.zero)=some (some z)) (h:Mp w g l) (s:ByteArray) :
  (Instr.lookup t (.map (some g)) (.string s) true).run P w=.ok (.tuple #[(find1 s l).getD z,.bool (find1 s l).isSome]) w:=by
 obtain⟨es,clock,h1,h2,h3⟩:=h;rcases find_spec h2 h3 s with ⟨f1,f2,f3⟩|⟨j,x,f1,f2,f3,f4⟩
 ·have hf:=(find_none l s f3).1
  have hzr:(zeroValue e).run P w=.ok z w:=by
   unfold zeroValue typeInfo;rcases hi:P.info? e with _|i
   ·rw[hi] at hz;cases hz
   ·rw[hi] at hz
    simp only[Option.map_some,Option.some.injEq] at hz;simp[hi,hz]
  simp[Instr.lookup,run_underlying ht,MapKept.run_getObj_map h1,run_checkKey hk (k:=.string s) trivial,run_findKey hk f1,Result.andThen,hf,hzr]
 ·have hf:=(find_at l j s x.val (nodup_keys h2 h3) f4).1
  simp[Instr.lookup,run_underlying ht,MapKept.run_getObj_map h1,run_checkKey hk (k:=.string s) trivial,run_findKey hk f1,Result.andThen,hf]
theorem setBlock_grown (w:World) (g:Nat) (o:Obj):w.grownBy (setBlock w g o) (some g)/\(setBlock w g o).heap.size=w.heap.size:=by
 refine⟨⟨rfl,rfl,rfl,by simp[setBlock],fun k _ hk=>?_⟩,by simp[setBlock]⟩;show(w.heap.setIfInBounds g o)[k]? =_
 rw[Array.getElem?_setIfInBounds_ne (by rintro rfl;exact hk rfl)]
theorem setBlock_at {w:World} {g:Nat} (o:Obj) (h:g<w.heap.size):(setBlock w g o).heap[g]? =some o:=by
 show(w.heap.setIfInBounds g o)[g]? =_
 rw[Array.getElem?_setIfInBounds_self_of_lt h]
theorem map_modify_set {α β:Type} (f:α->β) (F:α->α) (y:β):∀(l:List α) (j:Nat),(∀x,l[j]? =some x->f (F x)=y)->(l.modify j F).map f=(l.map f).set j y
 | [],j,_=>by simp
 |x::l,0,h=>by
  have:=h x rfl;simp[this]
 |x::l,j+1,h=>by
  have:=map_modify_set f F y l j (fun x hx=>h x (by simpa using hx));simp[this]
theorem run_updateS (ht:P.underlying t=some (.map k e)) (hk:P.underlying k=some .string) (h:Mp w g l) (s:ByteArray) (v:Value) :
  ∃w',(Instr.mapUpdate t (.map (some g)) (.string s) v).run P w=.ok () w'/\Mp w' g (put1 s v l)/\w.grownBy w' (some g)/\w'.heap.size=w.heap.size:=by
 have hlt:=h.lt;obtain⟨es,clock,h1,h2,h3⟩:=h;rcases find_spec h2 h3 s with ⟨f1,f2,f3⟩|⟨j,x,f1,f2,f3,f4⟩
 ·have hp:=(find_none l s f3).2.2.1 v
  refine⟨setBlock w g (.map (es.push { key:=.string s,val:=v,born:=clock }) (clock+1)),?_,⟨_,_,setBlock_at _ hlt,stamped_push h2 f2,?_⟩,setBlock_grown w g _⟩
  ·simp[Instr.mapUpdate,run_underlying ht,MapKept.run_getObj_map h1,run_checkKey hk (k:=.string s) trivial,run_findKey hk f1,MapKept.run_setObj_map _ h1,Result.andThen,setBlock]
  ·rw[hp,Array.toList_push,List.map_append,List.map_append,h3];rfl
 ·have hp:=(find_at l j s x.val (nodup_keys h2 h3) f4).2.1 v
  have hj:es[j]? =some x:=by simpa using f2
  refine⟨setBlock w g (.map (es.modify j (fun e'=>{ e' with key:=.string s,val:=v })) clock),?_,⟨_,_,setBlock_at _ hlt,stamped_modify h2 _ _ (fun _ _=>rfl) (fun e' _ he'=>by rw[hj] at he';cases he';exact f3.symm),?_⟩,setBlock_grown w g _⟩
  ·simp[Instr.mapUpdate,run_underlying ht,MapKept.run_getObj_map h1,run_checkKey hk (k:=.string s) trivial,run_findKey hk f1,hj,f3,run_keyThatStays (d:=.string) (k:=.string s) trivial,MapKept.run_setObj_map _ h1,Result.andThen,setBlock]
  ·rw[hp,Array.toList_modify,map_modify_set (fun e:MapEntry=>(e.key,e.val)) (fun e':MapEntry=>{ e' with key:=Value.string s,val:=v }) (Value.string s,v) _ _ (fun _ _=>rfl),h3,List.map_set]
theorem run_deleteS (ht:P.underlying t=some (.map k e)) (hk:P.underlying k=some .string) (h:Mp w g l) (s:ByteArray) (ty:TypeId) (ks:TypeId) :
  ∃w',(Builtin.delete_ #[t,ks] ty #[.map (some g),.string s]).run P w=.ok (.tuple #[]) w'/\Mp w' g (del1 s l)/\w.grownBy w' (some g)/\w'.heap.size=w.heap.size:=by
 have hlt:=h.lt;obtain⟨es,clock,h1,h2,h3⟩:=h;rcases find_spec h2 h3 s with ⟨f1,f2,f3⟩|⟨j,x,f1,f2,f3,f4⟩
 ·have hp:=(find_none l s f3).2.2.2
  refine⟨setBlock w g (.map es clock),?_,⟨_,_,setBlock_at _ hlt,h2,by rw[hp];exact h3⟩,setBlock_grown w g _⟩;simp[Builtin.delete_,run_underlying ht,MapKept.run_getObj_map h1,run_checkKey hk (k:=.string s) trivial,run_findKey hk f1,MapKept.run_setObj_map _ h1,Result.andThen,setBlock]
 ·have hp:=(find_at l j s x.val (nodup_keys h2 h3) f4).2.2
  refine⟨setBlock w g (.map (es.eraseIdxIfInBounds j) clock),?_,⟨_,_,setBlock_at _ hlt,stamped_erase h2 _,?_⟩,setBlock_grown w g _⟩
  ·simp[Builtin.delete_,run_underlying ht,MapKept.run_getObj_map h1,run_checkKey hk (k:=.string s) trivial,run_findKey hk f1,MapKept.run_setObj_map _ h1,Result.andThen,setBlock]
  ·have hjl:j<es.toList.length:=(List.getElem?_eq_some_iff.1 f2).1
   have hjs:j<es.size:=by simpa using hjl
   have hsub:(es.eraseIdxIfInBounds j).toList=es.toList.eraseIdx j:=by
    unfold Array.eraseIdxIfInBounds;rw[dif_pos hjs];simp
   rw[hp,hsub,map_eraseIdx,map_eraseIdx,h3]
theorem Mp.size (h:Mp w g l):∃es clock,w.heap[g]? =some (.map es clock)/\es.size=l.length:=by
 obtain⟨es,clock,h1,h2,h3⟩:=h;refine⟨es,clock,h1,?_⟩;have:=congrArg List.length h3;simpa using this
end
section
variable {P:Program} {ops:Array Oper} {rest:List Oper} {op:Oper} {a:Act} {w:World} {Q:Exit->Act->World->Prop} {g:Nat} {l:List (ByteArray×Value)} {t k e:TypeId}
theorem wpList_lookupS (ht:P.underlying t=some (.map k e)) (hk:P.underlying k=some .string) {z:Value} (hz:(P.info? e).map (·.zero)=some (some z)) (h:Mp w g l) (s:ByteArray) (x y:Operand)
  (hh:wpList P ops Q rest (a.put op.dst (.tuple #[(find1 s l).getD z,.bool (find1 s l).isSome])) w)
  (hgd:op.guard=none:=by exact rfl) (ho:op.op=.lookup t x y true:=by exact rfl) (hx:a.eval x=.map (some g):=by exact rfl) (hy:a.eval y=.string s:=by exact rfl):wpList P ops Q (op::rest) a w:=by
 refine wpList_plain hgd fun _ hK=>?_
 unfold Oper.wp execOp;simp only[ho,hx,hy,Sem.run_bind,Result.andThen_ok,run_lookupS ht hk hz h s];exact hK _ _ hh
theorem wpList_updateS (ht:P.underlying t=some (.map k e)) (hk:P.underlying k=some .string) (h:Mp w g l) (s:ByteArray) (v:Value) (x y z:Operand)
  (hh:∀w',Mp w' g (put1 s v l)->w.grownBy w' (some g)->w'.heap.size=w.heap.size->wpList P ops Q rest (a.put op.dst undef) w')
  (hgd:op.guard=none:=by exact rfl) (ho:op.op=.mapUpdate t x y z:=by exact rfl) (hx:a.eval x=.map (some g):=by exact rfl) (hy:a.eval y=.string s:=by exact rfl) (hz:a.eval z=v:=by exact rfl):wpList P ops Q (op::rest) a w:=by
 refine wpList_plain hgd fun _ hK=>?_
 obtain⟨w',h1,h2,h3,h4⟩:=run_updateS ht hk h s v;unfold Oper.wp execOp;simp only[ho,hx,hy,hz,Sem.run_bind,Result.andThen_ok,h1];exact hK _ _ (hh w' h2 h3 h4)
theorem wpList_deleteS (ht:P.underlying t=some (.map k e)) (hk:P.underlying k=some .string) (h:Mp w g l) (s:ByteArray) (ks:TypeId) (x y:Operand)
  (hh:∀w',Mp w' g (del1 s l)->w.grownBy w' (some g)->w'.heap.size=w.heap.size->wpList P ops Q rest (a.put op.dst (.tuple #[])) w')
  (hgd:op.guard=none:=by exact rfl) (ho:op.op=.call { callee:=.builtin .delete,args:=#[x,y],argTypes:=#[t,ks] }:=by exact rfl) (hx:a.eval x=.map (some g):=by exact rfl) (hy:a.eval y=.string s:=by exact rfl):wpList P ops Q (op::rest) a w:=by
 refine wpList_plain hgd fun _ hK=>?_
 obtain⟨w',h1,h2,h3,h4⟩:=run_deleteS ht hk h s op.type ks;unfold Oper.wp execOp;simp only[ho,resolve,invoke,builtin,Sem.run_bind,Sem.run_pure,Result.andThen_ok,List.map_toArray,List.map_cons,List.map_nil,hx,hy,h1];exact hK _ _ (hh w' h2 h3 h4)
theorem wpList_lenS (ht:P.underlying t=some (.map k e)) (h:Mp w g l) (x:Operand)
  (hh:wpList P ops Q rest (a.put op.dst (goInt l.length)) w)
  (hgd:op.guard=none:=by exact rfl) (ho:op.op=.call { callee:=.builtin .len,args:=#[x],argTypes:=#[t] }:=by exact rfl) (hx:a.eval x=.map (some g):=by exact rfl):wpList P ops Q (op::rest) a w:=by
 refine wpList_plain hgd fun _ hK=>?_
 obtain⟨es,clock,h1,h2⟩:=h.size;have hr:(Builtin.len_ #[t] op.type #[.map (some g)]).run P w=.ok (goInt l.length) w:=by
  simp[Builtin.len_,run_underlying ht,MapKept.run_getObj_map h1,Result.andThen,h2]
 unfold Oper.wp execOp;simp only[ho,resolve,invoke,builtin,Sem.run_bind,Sem.run_pure,Result.andThen_ok,List.map_toArray,List.map_cons,List.map_nil,hx,hr];exact hK _ _ hh
end
end Go.Proofs.YtejcdhdfanfkbaaGreat
namespace Go.Proofs.YtejcdhdfanfkbaaGreat
namespace Dk
open Go.RowKit
structure DS where
 now:List (ByteArray×Nat)
 safe:List (ByteArray×Nat)
 chg:List (ByteArray×ByteArray×Option Nat)
 fl:Nat->Option (ByteArray×ByteArray)
 cap:Int
 ops:Int
 armed:Int
 off:Bool
def lk (s:ByteArray) (l:List (ByteArray×Nat)):Option Nat:=(l.find? fun x=>decide (x.1=s)).map (·.2)
def pt (s:ByteArray) (b:Nat):List (ByteArray×Nat)->List (ByteArray×Nat)
 | []=>[(s,b)]
 |x::l=>if x.1=s then(s,b)::l else x::pt s b l
def dl (s:ByteArray):List (ByteArray×Nat)->List (ByteArray×Nat)
 | []=>[]
 |x::l=>if x.1=s then l else x::dl s l
def app (c:ByteArray×ByteArray×Option Nat) (l:List (ByteArray×Nat)):List (ByteArray×Nat) :=
 match c.2.2 with
 |some b=>pt c.1 b (if c.2.1=⟨#[]⟩ then l else dl c.2.1 l)
 |none=>if c.2.1=⟨#[]⟩ then l else dl c.2.1 l
def ptr (b:Nat):Value:=.pointer (some ⟨b,0,none⟩)
def vs (l:List (ByteArray×Nat)):List (ByteArray×Value):=l.map fun x=>(x.1,ptr x.2)
theorem vs_find (s:ByteArray):∀l,find1 s (vs l)=(lk s l).map ptr
 | []=>rfl
 |x::l=>by
  have:=vs_find s l;unfold find1 lk vs at *
  by_cases h:x.1=s
  ·rw[List.map_cons,List.find?_cons_of_pos (by simpa using h),List.find?_cons_of_pos (by simpa using h)];rfl
  ·rw[List.map_cons,List.find?_cons_of_neg (by simpa using h),List.find?_cons_of_neg (by simpa using h)];exact this
theorem vs_put (s:ByteArray) (b:Nat):∀l,put1 s (ptr b) (vs l)=vs (pt s b l)
 | []=>rfl
 |x::l=>by
  have:=vs_put s b l;unfold vs at *
  by_cases h:x.1=s
  ·rw[List.map_cons,put1,if_pos h,pt,if_pos h];rfl
  ·rw[List.map_cons,put1,if_neg h,pt,if_neg h,List.map_cons,this]
theorem vs_del (s:ByteArray):∀l,del1 s (vs l)=vs (dl s l)
 | []=>rfl
 |x::l=>by
  have:=vs_del s l;unfold vs at *
  by_cases h:x.1=s
  ·rw[List.map_cons,del1,if_pos h,dl,if_pos h]
  ·rw[List.map_cons,del1,if_neg h,dl,if_neg h,List.map_cons,this]
theorem pt_mem {s:ByteArray} {b:Nat}:∀{l:List (ByteArray×Nat)} {x},x∈pt s b l->x=(s,b)∨x∈l
 | [],x,h=>by simpa[pt] using h
 |y::l,x,h=>by
  unfold pt at h;split at h
  ·rcases List.mem_cons.1 h with h|h
   ·exact .inl h
   ·exact .inr (List.mem_cons_of_mem _ h)
  ·rcases List.mem_cons.1 h with h|h
   ·exact .inr (h▸List.mem_cons_self ..)
   ·exact(pt_mem h).imp_right (List.mem_cons_of_mem _)
theorem dl_mem {s:ByteArray}:∀{l:List (ByteArray×Nat)} {x},x∈dl s l->x∈l
 | [],x,h=>h
 |y::l,x,h=>by
  unfold dl at h;split at h
  ·exact List.mem_cons_of_mem _ h
  ·rcases List.mem_cons.1 h with h|h
   ·exact h▸List.mem_cons_self ..
   ·exact List.mem_cons_of_mem _ (dl_mem h)
theorem app_mem {c:ByteArray×ByteArray×Option Nat} {l:List (ByteArray×Nat)} {x} (h:x∈app c l):c.2.2=some x.2∨x∈l:=by
 have key:∀{x},x∈(if c.2.1=⟨#[]⟩ then l else dl c.2.1 l)->x∈l:=by
  intro x h;split at h
  ·exact h
  ·exact dl_mem h
 unfold app at h;rcases hc:c.2.2 with _|b
 ·rw[hc] at h;exact .inr (key h)
 ·rw[hc] at h
  rcases pt_mem h with rfl|h
  ·exact .inl rfl
  ·exact .inr (key h)
theorem lk_cons (s:ByteArray) (x:ByteArray×Nat) (l:List (ByteArray×Nat)):lk s (x::l)=if x.1=s then some x.2 else lk s l:=by
 unfold lk;by_cases h:x.1=s
 ·rw[List.find?_cons_of_pos (by simpa using h),if_pos h];rfl
 ·rw[List.find?_cons_of_neg (by simpa using h),if_neg h]
theorem pt_len (s:ByteArray) (b:Nat):∀l:List (ByteArray×Nat),(pt s b l).length=if(lk s l).isSome then l.length else l.length+1
 | []=>rfl
 |x::l=>by
  have:=pt_len s b l;rw[pt,lk_cons];by_cases h:x.1=s
  ·rw[if_pos h,if_pos h];simp
  ·rw[if_neg h,if_neg h,List.length_cons,this,List.length_cons];split<;>rfl
theorem dl_len (s:ByteArray):∀l:List (ByteArray×Nat),(dl s l).length=if(lk s l).isSome then l.length-1 else l.length
 | []=>rfl
 |x::l=>by
  have:=dl_len s l;rw[dl,lk_cons];by_cases h:x.1=s
  ·rw[if_pos h,if_pos h];simp
  ·rw[if_neg h,if_neg h,List.length_cons,this,List.length_cons]
   split
   ·rename_i h1
    have:0<l.length:=by
     rcases l with _|⟨y,l⟩
     ·simp[lk] at h1
     ·simp
    omega
   ·rfl
theorem lk_mem {s:ByteArray} {b:Nat}:∀{l:List (ByteArray×Nat)},lk s l=some b->(s,b)∈l
 | [],h=>by cases h
 |x::l,h=>by
  unfold lk at h;by_cases hx:x.1=s
  ·rw[List.find?_cons_of_pos (by simpa using hx)] at h
   simp only[Option.map_some,Option.some.injEq] at h;rw[<-hx,<-h];exact List.mem_cons_self ..
  ·rw[List.find?_cons_of_neg (by simpa using hx)] at h
   exact List.mem_cons_of_mem _ (lk_mem (l:=l) h)
def tick (D:DS):DS:={ D with ops:=IntKind.i64.wrap (D.ops+1),armed:=max (D.armed-1) 0 }
def opS (syncs:Bool) (act:DS->DS) (D:DS):DS :=
 if D.armed=1 then { (if syncs then tick D else act (tick D)) with off:=true } else act (tick D)
def opE (D:DS):Int:=if D.armed=1 then 200 else 0
def upE (D:DS):Int:=if D.off then 200 else 0
def setF (b:Nat) (p:ByteArray×ByteArray) (D:DS):DS:={ D with fl:=fun k=>if k=b then some p else D.fl k }
def chgD (c:ByteArray×ByteArray×Option Nat) (D:DS):DS:={ D with now:=app c D.now,chg:=D.chg++[c] }
def settleD (D:DS):DS:={ D with safe:=D.now,chg:=[] }
def szs (fl:Nat->Option (ByteArray×ByteArray)):List (ByteArray×Nat)->Nat
 | []=>0
 |x::l=>((fl x.2).map (·.2.size)).getD 0+szs fl l
theorem szs_append (fl:Nat->Option (ByteArray×ByteArray)):∀a b:List (ByteArray×Nat),szs fl (a++b)=szs fl a+szs fl b
 | [],b=>by simp[szs]
 |x::a,b=>by rw[List.cons_append,szs,szs,szs_append fl a b];omega
def usedD (D:DS):Nat:=szs D.fl D.now
theorem szs_le {fl:Nat->Option (ByteArray×ByteArray)} {m:Nat} (h:∀b p,fl b=some p->p.2.size<=m):∀l:List (ByteArray×Nat),szs fl l<=l.length*m
 | []=>by simp[szs]
 |x::l=>by
  have:=szs_le h l;rw[szs,List.length_cons,Nat.succ_mul];rcases hx:fl x.2 with _|p
  ·simp only[Option.map_none,Option.getD_none];omega
  ·have:=h _ _ hx
   simp only[Option.map_some,Option.getD_some];omega
end Dk
end Go.Proofs.YtejcdhdfanfkbaaGreat
