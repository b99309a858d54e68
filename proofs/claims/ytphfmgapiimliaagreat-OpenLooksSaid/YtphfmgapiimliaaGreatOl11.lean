/- A range over a map keyed by texts: whichever entry the tape says comes out. Over any program. disk: up, op. file: Append, Sync, Cut. entry: sealed, Check, follows; pick.Check. -/
import Derived.Test.YtphfmgapiimliaaGreatOl09
import Derived.Maps.RangeRun
import Derived.Test.YtphfmgapiimliaaGreatOl10
import Derived.Test.YtphfmgapiimliaaGreatOl03
import Derived.Maps.OwnOps
import Derived.Maps.OwnSet
import Derived.Maps.RangeWalk
import Derived.Test.YtphfmgapiimliaaGreatOl08
namespace Go.Proofs.YtphfmgapiimliaaGreat
open Go.RowKit Go.ChangeMaps Go.MapKept
def kvs (l:List MapEntry):List (Value×Value):=l.map fun e=>(e.key,e.val)
def svs (l:List (ByteArray×Value)):List (Value×Value):=l.map fun x=>(Value.string x.1,x.2)
def Itr (w:World) (g r:Nat) (l rest:List (ByteArray×Value)):Prop :=
 ∃es clock since c0 seen,w.heap[g]? =some (.map es clock)/\Stamped es clock/\kvs es.toList=svs l/\w.heap[r]? =some (.mapIter (some g) since seen c0)/\since<=c0/\(∀x∈es.toList,x.born<since)/\since<=clock/\kvs (leftOf es seen).toList=svs rest
theorem Itr.mp {w:World} {g r:Nat} {l rest:List (ByteArray×Value)} (h:Itr w g r l rest):Mp w g l:=by
 obtain⟨es,clock,since,c0,seen,h1,h2,h3,-⟩:=h;exact⟨es,clock,h1,h2,h3⟩
theorem Itr.lt {w:World} {g r:Nat} {l rest:List (ByteArray×Value)} (h:Itr w g r l rest):r<w.heap.size/\r≠g:=by
 obtain⟨es,clock,since,c0,seen,h1,-,-,h4,-⟩:=h;refine⟨(Array.getElem?_eq_some_iff.1 h4).1,?_⟩;rintro rfl;rw[h1] at h4;cases h4
theorem Itr.same {w w':World} {g r:Nat} {l rest:List (ByteArray×Value)} (h:Itr w g r l rest) (hg:w'.heap[g]? =w.heap[g]?) (hr:w'.heap[r]? =w.heap[r]?):Itr w' g r l rest:=by
 obtain⟨es,clock,since,c0,seen,h1,h2,h3,h4,h5⟩:=h;exact⟨es,clock,since,c0,seen,hg.trans h1,h2,h3,hr.trans h4,h5⟩
theorem left_push (es:Array MapEntry) (seen:Array Nat) (b:Nat):(leftOf es (seen.push b)).toList=(leftOf es seen).toList.filter (fun e=>e.born != b):=by
 unfold leftOf;rw[Array.toList_filter,Array.toList_filter,List.filter_filter];congr 1
 funext e
 simp only[Array.contains_push,Bool.not_or];rw[Bool.and_comm];congr 1
theorem filter_one:∀(l:List MapEntry) (e:MapEntry),(l.map (·.born)).Nodup->e∈l-> ∃pre post,l=pre++e::post/\l.filter (fun x=>x.born != e.born)=pre++post
 | [],e,_,h=>by cases h
 |x::l,e,hn,h=>by
  rw[List.map_cons,List.nodup_cons] at hn;rcases List.mem_cons.1 h with rfl|h
  ·refine⟨[],l,rfl,?_⟩
   rw[List.filter_cons_of_neg (by simp),List.nil_append,List.filter_eq_self];intro y hy;rw[bne_iff_ne];intro e1;exact hn.1 (e1▸List.mem_map.2 ⟨y,hy,rfl⟩)
  ·obtain⟨pre,post,h1,h2⟩:=filter_one l e hn.2 h
   refine⟨x::pre,post,by rw[h1];rfl,?_⟩;have hx:x.born≠e.born:=fun e1=>hn.1 (e1▸List.mem_map.2 ⟨e,h,rfl⟩)
   rw[List.filter_cons_of_pos (by rw[bne_iff_ne];exact hx),h2];rfl
theorem svs_split {pre post:List (Value×Value)} {x:Value×Value} {rest:List (ByteArray×Value)} (h:pre++x::post=svs rest):∃a s v b,rest=a++(s,v)::b/\pre=svs a/\x=(Value.string s,v)/\post=svs b:=by
 unfold svs at h;obtain⟨a,c,h1,h2,h3⟩:=List.map_eq_append_iff.1 h.symm;obtain⟨y,b,h4,h5,h6⟩:=List.map_eq_cons_iff.1 h3;exact⟨a,y.1,y.2,b,by rw[h1,h4],h2.symm,h5.symm,h6.symm⟩
theorem kvs_append (a b:List MapEntry):kvs (a++b)=kvs a++kvs b:=List.map_append ..
theorem svs_append (a b:List (ByteArray×Value)):svs (a++b)=svs a++svs b:=List.map_append ..
theorem Itr.next {P:Program} {w:World} {g r:Nat} {l rest:List (ByteArray×Value)} (h:Itr w g r l rest) (ty:TypeId) :
  (rest=[]/\(Instr.next (.pointer (some ⟨r,0,none⟩)) false ty).run P w=.ok (.tuple #[.bool false]) w) ∨
  ∃a s v b w',rest=a++(s,v)::b/\(Instr.next (.pointer (some ⟨r,0,none⟩)) false ty).run P w=.ok (.tuple #[.bool true,.string s,v]) w'/\Itr w' g r l (a++b)/\w.grownBy w' (some r)/\w'.heap.size=w.heap.size/\(Instr.entry (.pointer (some ⟨r,0,none⟩))).run P w'=.ok (.tuple #[.string s,v]) w':=by
 obtain⟨hlt,hne⟩:=h.lt;obtain⟨es,clock,since,c0,seen,h1,h2,h3,h4,h5,h6,h8,h7⟩:=h;rcases run_next_at (P:=P) w ty r g since c0 seen es clock h4 h1 h6 h5 with ⟨hz,hrun⟩|⟨e,he,w1,hw1,hrun⟩
 ·left
  refine⟨?_,hrun⟩;have hl:(leftOf es seen).toList=[]:=by rw[<-List.length_eq_zero_iff];simpa using hz
  rw[hl] at h7;unfold kvs svs at h7;exact(List.map_eq_nil_iff.1 h7.symm)
 ·right
  have hsub:((leftOf es seen).toList.map (·.born)).Nodup:=by
   unfold leftOf;rw[Array.toList_filter];exact(List.filter_sublist.map _).nodup h2.2.1
  obtain⟨pre,post,hp1,hp2⟩:=filter_one _ e hsub he;rw[hp1,kvs_append] at h7;obtain⟨a,s,v,b,q1,q2,q3,q4⟩:=svs_split (x:=(e.key,e.val)) (post:=kvs post) h7;simp only[Prod.mk.injEq] at q3;have hsame:w1.heap=w.heap:=by rcases hw1 with rfl|rfl<;>rfl
  have hos:w1.os=w.os/\w1.tape=w.tape/\w1.output=w.output:=by rcases hw1 with rfl|rfl<;>exact⟨rfl,rfl,rfl⟩
  obtain⟨g1,g2⟩:=setBlock_grown w1 r (.mapIter (some g) since (seen.push e.born) clock);have hlt1:r<w1.heap.size:=by rw[hsame];exact hlt
  have hgr:w.grownBy (setBlock w1 r (.mapIter (some g) since (seen.push e.born) clock)) (some r) :=
   ⟨g1.os.trans hos.1,g1.tape.trans hos.2.1,g1.output.trans hos.2.2,by rw[g2,hsame];exact Nat.le_refl _,fun k hk hn=>by rw[g1.block k (by rw[hsame];exact hk) hn,hsame]⟩
  have hb':(setBlock w1 r (.mapIter (some g) since (seen.push e.born) clock)).heap[g]? =some (.map es clock):=by
   rw[hgr.block g (Array.getElem?_eq_some_iff.1 h1).1 (by intro e2;cases e2;exact hne rfl)];exact h1
  refine⟨a,s,v,b,_,q1,by rw[hrun,q3.1,q3.2],⟨es,clock,since,clock,seen.push e.born,hb',h2,h3,setBlock_at _ hlt1,h8,h6,h8,?_⟩,hgr,by rw[g2,hsame],?_⟩
  rotate_left
  ·rw[run_entry_at _ r g since seen es clock e (setBlock_at _ hlt1) hb' (mem_left he).1 h2.2.1,q3.1,q3.2]
  ·rw[left_push,hp2,kvs_append,svs_append,q2,q4]
theorem Mp.itr {w:World} {g:Nat} {l:List (ByteArray×Value)} (h:Mp w g l):∃clock,Itr (w.alloc (.mapIter (some g) clock #[] clock)) g w.heap.size l l/\ ∀(P:Program) (t:TypeId) (k e:TypeId),P.underlying t=some (.map k e) ->
  (Instr.range t (.map (some g))).run P w=.ok (.pointer (some ⟨w.heap.size,0,none⟩)) (w.alloc (.mapIter (some g) clock #[] clock)):=by
 have hlt:=h.lt;obtain⟨es,clock,h1,h2,h3⟩:=h;refine⟨clock,⟨es,clock,clock,clock,#[],?_,h2,h3,heap_alloc_new w _,Nat.le_refl _,h2.1,Nat.le_refl _,?_⟩,fun P t k e ht=>?_⟩
 ·exact(Below.heap_alloc w _ g hlt).trans h1
 ·unfold leftOf
  rw[Array.filter_eq_self.2 (by simp)];exact h3
 ·simp[Instr.range,run_underlying ht,MapKept.run_getObj_map h1,Result.andThen]
section
variable {P:Program} {ops:Array Oper} {rest:List Oper} {op:Oper} {a:Act} {w:World} {Q:Exit->Act->World->Prop} {g r:Nat} {l lf:List (ByteArray×Value)} {t k e:TypeId}
theorem wpList_rangeS (ht:P.underlying t=some (.map k e)) (h:Mp w g l) (x:Operand)
  (hh:∀w',Itr w' g w.heap.size l l->Below w.heap.size w w'->w'.heap.size=w.heap.size+1->wpList P ops Q rest (a.put op.dst (.pointer (some ⟨w.heap.size,0,none⟩))) w')
  (hgd:op.guard=none:=by exact rfl) (ho:op.op=.range t x:=by exact rfl) (hx:a.eval x=.map (some g):=by exact rfl):wpList P ops Q (op::rest) a w:=by
 refine wpList_plain hgd fun _ hK=>?_
 obtain⟨clock,h1,h2⟩:=h.itr;unfold Oper.wp execOp;simp only[ho,hx,Sem.run_bind,Result.andThen_ok,h2 P t k e ht];exact hK _ _ (hh _ h1 (ext_alloc w _) (by simp))
theorem wpList_nextS (h:Itr w g r l lf) (x:Operand)
  (h0:lf=[]->wpList P ops Q rest (a.put op.dst (.tuple #[.bool false])) w)
  (h1:∀c s v b w',lf=c++(s,v)::b->Itr w' g r l (c++b)->w.grownBy w' (some r)->w'.heap.size=w.heap.size->(Instr.entry (.pointer (some ⟨r,0,none⟩))).run P w'=.ok (.tuple #[.string s,v]) w'->wpList P ops Q rest (a.put op.dst (.tuple #[.bool true,.string s,v])) w')
  (hgd:op.guard=none:=by exact rfl) (ho:op.op=.next x false:=by exact rfl) (hx:a.eval x=.pointer (some ⟨r,0,none⟩):=by exact rfl):wpList P ops Q (op::rest) a w:=by
 refine wpList_plain hgd fun _ hK=>?_
 rcases h.next (P:=P) op.type with ⟨hz,hrun⟩|⟨c,s,v,b,w',q1,q2,q3,q4,q5,q6⟩
 ·unfold Oper.wp execOp
  simp only[ho,hx,Sem.run_bind,Result.andThen_ok,hrun];exact hK _ _ (h0 hz)
 ·unfold Oper.wp execOp
  simp only[ho,hx,Sem.run_bind,Result.andThen_ok,q2];exact hK _ _ (h1 c s v b w' q1 q3 q4 q5 q6)
theorem wpList_nextS0 (h:Itr w g r l []) (x:Operand) (h0:wpList P ops Q rest (a.put op.dst (.tuple #[.bool false])) w)
  (hgd:op.guard=none:=by exact rfl) (ho:op.op=.next x false:=by exact rfl) (hx:a.eval x=.pointer (some ⟨r,0,none⟩):=by exact rfl):wpList P ops Q (op::rest) a w :=
 wpList_nextS h x (fun _=>h0) (fun _ _ _ _ _ e=>by simp at e) hgd ho hx
theorem wpList_nextS1 (h:Itr w g r l lf) (hne:lf≠ []) (x:Operand)
  (h1:∀c s v b w',lf=c++(s,v)::b->Itr w' g r l (c++b)->w.grownBy w' (some r)->w'.heap.size=w.heap.size->(Instr.entry (.pointer (some ⟨r,0,none⟩))).run P w'=.ok (.tuple #[.string s,v]) w'->wpList P ops Q rest (a.put op.dst (.tuple #[.bool true,.string s,v])) w')
  (hgd:op.guard=none:=by exact rfl) (ho:op.op=.next x false:=by exact rfl) (hx:a.eval x=.pointer (some ⟨r,0,none⟩):=by exact rfl):wpList P ops Q (op::rest) a w :=
 wpList_nextS h x (fun e=>absurd e hne) h1 hgd ho hx
end
end Go.Proofs.YtphfmgapiimliaaGreat
namespace Go.Proofs.YtphfmgapiimliaaGreat
namespace Dk
open Go.RowKit
section
variable {w w':World} {S:Nat->Prop} {bd gN gS:Nat} {v:Value} {D:DS}
set_option maxHeartbeats 1600000 in
theorem up_any (h:DiskAt w S bd D):Calls Tryz.prog 54 #[.pointer (some ⟨bd,0,none⟩)] w fun e w'=>e=.returned (.int .i64 (upE D))/\w=w':=by
 obtain⟨gN,gS,v,h⟩:=h;have c6:=h.c6;have c7:=h.c7;unfold upE;rcases ho:D.off with _|_
 all_goals
  rw[ho] at c6;clear h ho
  go_enter Tryz.func54, Tryz.ntmps54
  go_wp2_with fail
  go_ret
  exact⟨rfl,rfl⟩
def findP (D:DS) (s:ByteArray):Value×Int:=if D.off then(.pointer none,200) else match lk s D.now with
 |none=>(.pointer none,201)
 |some b=>(ptr b,0)
theorem ptr_zero:(Tryz.prog.info? 108).map (·.zero)=some (some (.pointer none)):=by kernel_rfl
set_option maxHeartbeats 1600000 in
theorem find_any (h:DiskAt w S bd D) (s:ByteArray):Calls Tryz.prog 70 #[.pointer (some ⟨bd,0,none⟩),.string s] w fun e w'=>e=.returned (.tuple #[(findP D s).1,.int .i64 (findP D s).2])/\w=w':=by
 have hU:=up_any h;obtain⟨gN,gS,v,h⟩:=h;have c0:=h.c0;have HM:=Lib.hid h.now;have HF:=Lib.hid (vs_find s D.now);unfold findP;unfold upE at hU;rcases ho:D.off with _|_
 ·rw[ho] at hU
  simp only[Bool.false_eq_true,if_false] at hU ⊢;rcases hl:lk s D.now with _|b
  all_goals
   rw[hl] at HF;clear h ho hl
   go_enter Tryz.func70, Tryz.ntmps70
   go_wp2_with (first
    |(go_at_call 54;refine hU.mono ?_;rintro e1 w1 ⟨rfl,rfl⟩)
    |(at_lookup;refine wpList_lookupS Tryz.underlying86 Tryz.underlying9 ptr_zero HM.out s _ _ ?_;rw[HF.out]))
   go_ret2
   exact⟨rfl,rfl⟩
 ·rw[ho] at hU
  simp only[if_true] at hU ⊢;clear h ho
  go_enter Tryz.func70, Tryz.ntmps70
  go_wp2_with (first
    |(go_at_call 54;refine hU.mono ?_;rintro e1 w1 ⟨rfl,rfl⟩))
  go_ret2
  exact⟨rfl,rfl⟩
end
end Dk
end Go.Proofs.YtphfmgapiimliaaGreat
namespace Go.Proofs.YtphfmgapiimliaaGreat
namespace Dk
open Go.RowKit
def fagg (a b:ByteArray):Value:=.agg #[.string a,.string b]
theorem file_info:(Tryz.prog.info? 186).map (·.size)=some 2:=by kernel_rfl
theorem blk_second (w:World) (o:Obj) (cs:Array Value) (t:TypeId):Blk ((w.alloc o).alloc (.cells cs t)) (w.heap.size+1) cs t:=by
 have:=Blk.new (w.alloc o) cs t
 rwa [show(w.alloc o).heap.size=w.heap.size+1 from by simp] at this
theorem ext_second (w:World) (o p:Obj):Below w.heap.size w ((w.alloc o).alloc p):=(ext_alloc w o).trans ((ext_alloc (w.alloc o) p).mono (by simp))
set_option maxHeartbeats 1600000 in
theorem fapp_ok (a b s:ByteArray) (w:World) (h:b.size+s.size<=1000000) :
  Calls Tryz.prog 241 #[fagg a b,.string s] w fun e w'=>e=.returned (.tuple #[fagg a (b++s),.int .i64 0])/\Below w.heap.size w w':=by
 have h1: ¬ (s.size:Int)>1000000-(b.size:Int):=by omega
 have h2:wrap64 (1000000-(b.size:Int))=1000000-(b.size:Int):=by unfold wrap64;omega
 unfold fagg
 go_enter Tryz.func241, Tryz.ntmps241
 go_wp2_with fail
 refine bodyPost_ret (v:=.tuple #[.agg #[.string a,.string (b++s)],.int .i64 0]) (by exact results_cell2 rfl rfl rfl (blk_second _ _ _ _) Tryz.underlying186 rfl file_info) (by exact rfl) ?_;exact⟨rfl,ext_second w _ _⟩
theorem fapp_big (a b s:ByteArray) (w:World) (hb:b.size<=1000000) (h: ¬ b.size+s.size<=1000000) :
  Calls Tryz.prog 241 #[fagg a b,.string s] w fun e w'=>e=.returned (.tuple #[fagg ⟨#[]⟩ ⟨#[]⟩,.int .i64 3])/\Below w.heap.size w w':=by
 have h1:(s.size:Int)>1000000-(b.size:Int):=by omega
 have h2:wrap64 (1000000-(b.size:Int))=1000000-(b.size:Int):=by unfold wrap64;omega
 unfold fagg
 go_enter Tryz.func241, Tryz.ntmps241
 go_wp2_with fail
 refine bodyPost_ret (v:=.tuple #[.agg #[.string ⟨#[]⟩,.string ⟨#[]⟩],.int .i64 3]) (by exact results_cell2 rfl rfl rfl (blk_second _ _ _ _) Tryz.underlying186 rfl file_info) (by exact rfl) ?_;exact⟨rfl,ext_second w _ _⟩
theorem fsync_any (a b:ByteArray) (w:World) :
  Calls Tryz.prog 192 #[fagg a b] w fun e w'=>e=.returned (fagg b b)/\Below w.heap.size w w':=by
 unfold fagg
 go_enter Tryz.func192, Tryz.ntmps192
 go_wp2_with fail
 refine bodyPost_ret (v:=.agg #[.string b,.string b]) (by exact results_cell1 rfl rfl (blk_second _ _ _ _) Tryz.underlying186 rfl file_info) (by exact rfl) ?_;exact⟨rfl,ext_second w _ _⟩
set_option maxHeartbeats 1600000 in
theorem fcut_ok (a b:ByteArray) (n:Nat) (w:World) (hb:b.size<=1000000) (h:n<=b.size) :
  Calls Tryz.prog 139 #[fagg a b,.int .i64 (n:Int)] w fun e w'=>e=.returned (.tuple #[fagg a (b.extract 0 n),.int .i64 0])/\Below w.heap.size w w':=by
 have h1: ¬ (n:Int)<0:=by omega
 have h2: ¬ (n:Int)>(b.size:Int):=by omega
 have h3:(n:Int)<=(b.size:Int):=by omega
 unfold fagg
 go_enter Tryz.func139, Tryz.ntmps139
 go_wp2_with fail
 refine bodyPost_ret (v:=.tuple #[.agg #[.string a,.string (b.extract 0 n)],.int .i64 0]) (by exact results_cell2 rfl rfl rfl (blk_second _ _ _ _) Tryz.underlying186 rfl file_info) (by exact rfl) ?_;exact⟨rfl,ext_second w _ _⟩
set_option maxHeartbeats 1600000 in
theorem fcut_arg (a b:ByteArray) (n:Int) (w:World) (hb:b.size<=1000000) (h:n<0∨b.size<n) :
  Calls Tryz.prog 139 #[fagg a b,.int .i64 n] w fun e w'=>e=.returned (.tuple #[fagg ⟨#[]⟩ ⟨#[]⟩,.int .i64 2])/\Below w.heap.size w w':=by
 unfold fagg;rcases(show n<0∨(¬ n<0/\n>(b.size:Int)) by omega) with h1|⟨h1,h2⟩
 all_goals
  clear h
  go_enter Tryz.func139, Tryz.ntmps139
  go_wp2_with fail
  refine bodyPost_ret (v:=.tuple #[.agg #[.string ⟨#[]⟩,.string ⟨#[]⟩],.int .i64 2]) (by exact results_cell2 rfl rfl rfl (blk_second _ _ _ _) Tryz.underlying186 rfl file_info) (by exact rfl) ?_;exact⟨rfl,ext_second w _ _⟩
end Dk
end Go.Proofs.YtphfmgapiimliaaGreat
namespace Go.Proofs.YtphfmgapiimliaaGreat
namespace Op
open Go.RowKit Hd Rd Dk
def eagg (x:En):Value:=.agg #[.int .i64 x.i,.int .i64 x.g,.int .i64 x.f,.bool x.z,.int .i64 x.c,.int .i64 x.b,.int .i64 x.e,.int .i64 x.l,.int .i64 x.n]
def slB (x:En):Bool:=decide (1<=x.b/\x.b<=1000/\x.b<=x.c/\x.c<=1000000000/\x.f+x.c<=1000000001/\0<=x.e/\x.e<=x.l/\x.l<=1000000000/\1<=x.n/\x.n<=1000000)
set_option maxHeartbeats 3200000 in
set_option maxRecDepth 100000 in
theorem sealed_any (x:En) (w:World):Calls Tryz.prog 127 #[eagg x] w fun e w'=>e=.returned (.bool (slB x))/\Below w.heap.size w w':=by
 obtain⟨i,g,f,z,c,b,e,l,n⟩:=x;unfold eagg slB;dsimp only;have HB:=Lib.hid (ext_alloc w (.cells #[.int .i64 i,.int .i64 g,.int .i64 f,.bool z,.int .i64 c,.int .i64 b,.int .i64 e,.int .i64 l,.int .i64 n] 174))
 go_enter Tryz.func127, Tryz.ntmps127
 go_wp2_with fail
 all_goals
  go_ret
  refine⟨ret_bool ?_,HB.out⟩;rw[Bool.eq_iff_iff];simp only[Bool.and_eq_true,decide_eq_true_eq,Bool.false_eq_true,false_iff,true_iff,wrap64] at *
  omega
theorem cne_en (x y:En) (w:World):(binOp .neq 48 (eagg x) (eagg y)).run Tryz.prog w=.ok (.bool (decide (x≠y))) w:=by
 obtain⟨i,g,f,z,c,b,e,l,n⟩:=x;obtain⟨i',g',f',z',c',b',e',l',n'⟩:=y;unfold eagg;simp[go_sem]
 repeat' split
 all_goals simp_all
theorem okE_bd {x:En} (h:okE x=true):1<=x.i/\x.i<=999999/\1<=x.g/\x.g<=999999/\1<=x.f/\x.f<=1000000000/\0<=x.c/\x.c<=1000000000/\0<=x.b/\x.b<=1000/\0<=x.e/\x.e<=x.l/\x.l<=1000000000/\0<=x.n/\x.n<=1000000/\x.f+x.c<=1000000001:=by
 unfold okE okH at h;rw[Bool.and_eq_true,decide_eq_true_eq] at h;obtain⟨h1,h2⟩:=h;rcases hz:x.z with _|_
 ·rw[hz] at h2
  simp only[Bool.false_eq_true,if_false,decide_eq_true_eq] at h2;omega
 ·rw[hz] at h2
  simp only[if_true,decide_eq_true_eq] at h2;omega
set_option maxHeartbeats 3200000 in
set_option maxRecDepth 100000 in
theorem efol_any (p m:En) (w:World) (hp:okE p=true):Calls Tryz.prog 145 #[eagg p,eagg m] w fun e w'=>e=.returned (.bool (folE p m))/\Below w.heap.size w w':=by
 have hb:=okE_bd hp;obtain⟨i,g,f,z,c,b,e,l,n⟩:=p;obtain⟨i',g',f',z',c',b',e',l',n'⟩:=m;unfold eagg;dsimp only at *
 have hw:IntKind.i64.wrap (f+c)=f+c:=by rw[IntKind.wrap_i64];omega
 clear hp;rcases z with _|_
 all_goals rcases z' with _|_
 all_goals
  go_enter Tryz.func145, Tryz.ntmps145
  go_wp2_with fail
 all_goals
  go_ret
  refine⟨ret_bool ?_,ext_second w _ _⟩;rw[Bool.eq_iff_iff];simp only[folE,Bool.and_eq_true,Bool.or_eq_true,Bool.not_eq_true',decide_eq_true_eq,beq_iff_eq,Bool.false_eq_true,false_iff,true_iff,false_and,true_and,Bool.not_true,Bool.not_false,or_true,true_or,false_or,reduceCtorEq,and_true] at *
  try omega
def eE (x:En):Int:=if okE x=true then 0 else 240
set_option maxHeartbeats 3200000 in
set_option maxRecDepth 100000 in
theorem echeck_any (x:En) (w:World):Calls Tryz.prog 78 #[eagg x] w fun e w'=>e=.returned (.int .i64 (eE x))/\Below w.heap.size w w':=by
 have mixed:Tryz.prog.follows .mixedOrders=true:=by kernel_rfl
 have HS:=Lib.hid (fun w=>sealed_any x w);have HC:=Lib.hid (fun w=>check_any x.i x.g x.f w);have hq:=fun w=>cne_en x ⟨x.i,x.g,x.f,false,0,0,0,0,0⟩ w
 have HE:=Lib.hid (show okE x=(okH x.i x.g x.f&&(if x.z then slB x else !decide (x≠⟨x.i,x.g,x.f,false,0,0,0,0,0⟩))) from by
  unfold okE slB;rcases hz:x.z with _|_
  ·simp only[Bool.false_eq_true,if_false]
   congr 1;obtain⟨i,g,f,z,c,b,e,l,n⟩:=x;subst hz;simp
  ·rfl)
 unfold eE;obtain⟨i,g,f,z,c,b,e,l,n⟩:=x;unfold eagg at *
 dsimp only at *
 obtain⟨K,hK⟩:∃K,okE ⟨i,g,f,z,c,b,e,l,n⟩=K:=⟨_,rfl⟩
 obtain⟨L,hL⟩:∃L,slB ⟨i,g,f,z,c,b,e,l,n⟩=L:=⟨_,rfl⟩
 obtain⟨D,hD⟩:∃D,decide (En.mk i g f z c b e l n≠⟨i,g,f,false,0,0,0,0,0⟩)=D:=⟨_,rfl⟩
 rw[hK] at HE ⊢;rw[hL] at HE HS;rw[hD] at HE;simp only[hD] at hq;clear hK hL hD;have HN:=Lib.hid (blk_second w (.cells #[.int .i64 i,.int .i64 g,.int .i64 f,.bool z,.int .i64 c,.int .i64 b,.int .i64 e,.int .i64 l,.int .i64 n] 48) #[.int .i64 i,.int .i64 g,.int .i64 f,.bool z,.int .i64 c,.int .i64 b,.int .i64 e,.int .i64 l,.int .i64 n] 174);have HB:=Lib.hid (ext_second w (.cells #[.int .i64 i,.int .i64 g,.int .i64 f,.bool z,.int .i64 c,.int .i64 b,.int .i64 e,.int .i64 l,.int .i64 n] 48) (.cells #[.int .i64 i,.int .i64 g,.int .i64 f,.bool z,.int .i64 c,.int .i64 b,.int .i64 e,.int .i64 l,.int .i64 n] 174));rcases hk:okH i g f with _|_
 all_goals rw[hk] at HC HE
 case false =>
  have hK:=HE.out;simp only[Bool.false_and] at hK;subst hK;simp only[Bool.false_eq_true,if_false] at HC ⊢;clear hk HS hq HE
  go_enter Tryz.func78, Tryz.ntmps78
  go_wp2_with (go_at_call 126;refine(HC.out _).mono ?_;rintro e1 w1 ⟨rfl,hb1⟩;have HB:=Lib.hid (HB.out.trans (hb1.mono HB.out.size));clear hb1)
  go_ret
  exact⟨rfl,HB.out⟩
 case true =>
  simp only[if_true,Bool.true_and] at HC HE;rcases z with _|_
  case true =>
   have hK:=HE.out;simp only[if_true] at hK;subst hK;clear HE hq hk;rcases K with _|_
   all_goals
    simp only[Bool.false_eq_true,if_false,if_true]
    go_enter Tryz.func78, Tryz.ntmps78
    go_wp2_with (first
     |(go_at_call 126;refine(HC.out _).mono ?_;rintro e1 w1 ⟨rfl,hb1⟩;have HB:=Lib.hid (HB.out.trans (hb1.mono HB.out.size));have HN:=Lib.hid (HN.out.ext hb1);clear hb1;have k0:=HN.out.cell 0 (v:=.int .i64 i) rfl;have k1:=HN.out.cell 1 (v:=.int .i64 g) rfl;have k2:=HN.out.cell 2 (v:=.int .i64 f) rfl;have k3:=HN.out.cell 3 (v:=.bool true) rfl;have k4:=HN.out.cell 4 (v:=.int .i64 c) rfl;have k5:=HN.out.cell 5 (v:=.int .i64 b) rfl;have k6:=HN.out.cell 6 (v:=.int .i64 e) rfl;have k7:=HN.out.cell 7 (v:=.int .i64 l) rfl;have k8:=HN.out.cell 8 (v:=.int .i64 n) rfl)
     |(go_at_call 127;refine(HS.out _).mono ?_;rintro e2 w2 ⟨rfl,hb2⟩;have HB:=Lib.hid (HB.out.trans (hb2.mono HB.out.size));have HN:=Lib.hid (HN.out.ext hb2);clear hb2;have k3:=HN.out.cell 3 (v:=.bool true) rfl))
    go_ret
    exact⟨rfl,HB.out⟩
  case false =>
   have hK:=HE.out;simp only[Bool.false_eq_true,if_false] at hK;subst hK;clear HE HS hk;rcases D with _|_
   all_goals
    simp only[Bool.not_true,Bool.not_false,Bool.false_eq_true,if_false,if_true]
    go_enter Tryz.func78, Tryz.ntmps78
    go_wp2_with (go_at_call 126;refine(HC.out _).mono ?_;rintro e1 w1 ⟨rfl,hb1⟩;have HB:=Lib.hid (HB.out.trans (hb1.mono HB.out.size));have HN:=Lib.hid (HN.out.ext hb1);clear hb1;have k0:=HN.out.cell 0 (v:=.int .i64 i) rfl;have k1:=HN.out.cell 1 (v:=.int .i64 g) rfl;have k2:=HN.out.cell 2 (v:=.int .i64 f) rfl;have k3:=HN.out.cell 3 (v:=.bool false) rfl;have k4:=HN.out.cell 4 (v:=.int .i64 c) rfl;have k5:=HN.out.cell 5 (v:=.int .i64 b) rfl;have k6:=HN.out.cell 6 (v:=.int .i64 e) rfl;have k7:=HN.out.cell 7 (v:=.int .i64 l) rfl;have k8:=HN.out.cell 8 (v:=.int .i64 n) rfl)
    go_ret
    exact⟨rfl,HB.out⟩
end Op
end Go.Proofs.YtphfmgapiimliaaGreat
