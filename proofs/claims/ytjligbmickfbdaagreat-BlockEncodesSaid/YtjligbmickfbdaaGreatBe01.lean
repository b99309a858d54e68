/- General lemmas over any program: endings, the law's last step (true is told, the arguments read as they did, nothing that was there has turned). No conditions. Bytes as ranks in a row in which each goes to the front: plain lists, no program. -/
import Derived.Handy
import Derived.WalkSpells
import Derived.WalkLawsBesides
import Derived.Lib.Hide
import Derived.Deep.QuietTactic
import Derived.BigQuiet
import Derived.Deep.RegionHeld3
import Derived.Laws.BytesArg
import Derived.ProofKit
import Derived.OpenShut
namespace Go.Proofs.YtjligbmickfbdaaGreat
open Go.RowKit Go.ChangeShapes Go.WideShapes
theorem ret_bool {a b:Bool} (h:a=b):Ending.returned (.bool a)=.returned (.bool b):=by rw[h]
theorem ret_int {k:IntKind} {a b:Int} (h:a=b):Ending.returned (.int k a)=.returned (.int k b):=by rw[h]
theorem ret_str {a b:ByteArray} (h:a=b):Ending.returned (.string a)=.returned (.string b):=by rw[h]
def toU8 (l:List Int):List UInt8:=l.map fun n=>UInt8.ofNat n.toNat
theorem strOfNums_eq (l:List Int):strOfNums l=⟨(toU8 l).toArray⟩:=rfl
theorem trodAll_stays {H:Type} {enc:TypeId×Value->H} {P:Program} (hl:laidOutB P=true) {W W':World} (hb:Below W.heap.size W W') :
  ∀{ts:List TypeId} {vs:List Value} {ds:List (DataW H)} {ps:List MemPlace},(∀t∈ts,P.readableRec t=true/\t<P.types.size) ->
   DataW.TrodAll enc P W 0 (fun _=>true) true ts vs ds ps->(∀x∈ps,x.block<W.heap.size) ->
   ∀sp:Nat->Bool,(∀p∈ps,sp p.block=true)->DataW.TrodAll enc P W' 0 sp true ts vs ds ps
 | [],_,_,_,_,h,_,_,_=>by
   obtain⟨rfl,rfl,rfl⟩:=trodAll_nil h;exact h
 |t::ts,_,_,_,hr,h,hlt,sp,hsp=>by
  obtain⟨v,vs1,d,ds1,a,b,rfl,rfl,rfl,h1,h2⟩:=trodAll_cons h;have ht:=hr t (by simp);refine⟨a,b,?_,trodAll_stays hl hb (fun t' h'=>hr t' (by simp[h'])) h2 (fun x hx=>hlt x (by simp[hx])) sp (fun p hp=>hsp p (by simp[hp])),rfl⟩;exact WideElems.Trod_stays hl ht.1 ht.2 h1 (fun x hx=>hb.same (hlt x (by simp[hx]))) (fun x hx=>hsp x (by simp[hx]))
theorem post_true {H:Type} {enc:TypeId×Value->H} {P:Program} (hl:laidOutB P=true) {f:Func} {s:ChangeSpec} {apart fresh handsOn:Bool} {W W':World} {args:Array Value}
  {ds gs:List (DataW H)} {before:List MemPlace} {tb:TypeId}
  (hvars:s.vars=[]) (hres:f.resultTypes= #[tb]) (htb:P.underlying tb=some .bool)
  (hfr:(s.fn H (ds++gs)).results=[.lit (.bool true)]) (hfa:(s.fn H (ds++gs)).args=ds) (hfv:(s.fn H (ds++gs)).vars=[])
  (hp:∀t∈f.params.toList,P.readableRec t=true/\t<P.types.size)
  (hW:DataW.Whole enc P f.params.toList s.vars apart W args.toList ds gs before) (hb:Below W.heap.size W W') :
  s.post enc P f apart fresh handsOn false W args (.bool true) W':=by
 have hW':=hW;obtain⟨p,q,hA,hV,rfl,hfz,hnd⟩:=hW;have hlt:∀x∈p++q,x.block<W.heap.size:=fun x hx=>hW'.lt x hx
 rw[hvars] at hV;obtain⟨rfl,rfl⟩:=trodVars_none hV;rw[List.append_nil] at hlt;refine⟨ds,[],p++[],[],p,[],hW',?_,?_,?_,?_,by simp⟩
 ·rw[hfr,hres]
  exact trodAll_mk1 (shut_bool htb true)
 ·rw[hfa]
  exact trodAll_stays hl hb hp hA hlt _ (fun x hx=>by simpa using hlt x hx)
 ·rw[hfv,hvars]
  rfl
 ·exact World.keptBut_mono (fun x hx=>⟨by simpa using hx,.inr (.inl hx)⟩) (hb.frame (· ∈p))
theorem open_pair {H:Type} {enc:TypeId×Value->H} {P:Program} {w:World} {base b0:Nat} {spare:Nat->Bool} {held:Bool} {r:Reach} {t e:TypeId} {k:IntKind} {v:Value} {d:DataW H} {p:List MemPlace}
  (ht:P.underlying t=some (.array 2 e)) (he:P.underlying e=some (.int k)) (hc:P.cellsOf e=1) (hC:P.cellsOf t=2)
  (hv:Value.okWide P w r b0 t v) (h:DataW.Trod enc P w base spare held t v d p):∃a b:Int,v=.agg #[.int k a,.int k b]:=by
 simp only[Value.okWide,ht] at hv;obtain⟨cs,rfl,hsz,_⟩:=hv;obtain⟨c0,c1,rfl⟩:∃a b,cs= #[a,b]:=by
  have h2:cs.size=2:=hsz.trans hC;obtain⟨l⟩:=cs
  match l,h2 with
  | [a,b],_=>exact⟨a,b,rfl⟩
 obtain⟨fuel,hf⟩:=h;obtain⟨xs,m,_,_,_,hl,hx⟩:=DataW.trod_array ht hf;have h0:=hx 0 (by omega);have h1:=hx 1 (by omega);rw[List.getElem?_eq_getElem (by omega)] at h0 h1;simp only[hc,Value.cells] at h0 h1;obtain⟨n0,e0,_⟩:=DataW.trod_int he h0;obtain⟨n1,e1,_⟩:=DataW.trod_int he h1;simp at e0 e1
 exact⟨n0,n1,by rw[e0,e1]⟩
theorem bcell {W w1:World} {B:Nat} (hb:Below B W w1):∀b o,b<B->w1.cell? ⟨b,o,none⟩=W.cell? ⟨b,o,none⟩:=fun b o h=>hb.cell (p:=⟨b,o,none⟩) h
theorem below_drewN {B:Nat} {a w:World} (h:Below B a w) (n:Nat):Below B a (w.drewN n):=⟨h.os,h.tape,h.output,h.size,h.block⟩
theorem below_iter {B:Nat} {a w:World} (h:Below B a w) (hB:B<=w.heap.size) (s:ByteArray) (pos:Nat):Below B a (w.iter s pos):=h.alloc hB _
end Go.Proofs.YtjligbmickfbdaaGreat
namespace Go.Proofs.YtjligbmickfbdaaGreat
namespace Fr
def row0:List UInt8:=(List.range 256).map UInt8.ofNat
def plc (c:UInt8):List UInt8->Nat
 | []=>0
 |d::l=>if d=c then 0 else plc c l+1
def mv (row:List UInt8) (i:Nat):List UInt8 :=
 match row[i]? with
 |some c=>c::(row.take i++row.drop (i+1))
 |none=>row
theorem mv_some {row:List UInt8} {i:Nat} {c:UInt8} (h:row[i]? =some c):mv row i=c::(row.take i++row.drop (i+1)):=by
 unfold mv;rw[h]
theorem length_mv (row:List UInt8) (i:Nat):(mv row i).length=row.length:=by
 rcases h:row[i]? with _|c
 ·unfold mv;rw[h]
 ·rw[mv_some h]
  have:i<row.length:=(List.getElem?_eq_some_iff.1 h).1;simp;omega
theorem mv_perm (row:List UInt8) (i:Nat):(mv row i).Perm row:=by
 rcases h:row[i]? with _|c
 ·unfold mv;rw[h]
 ·rw[mv_some h]
  have hi:i<row.length:=(List.getElem?_eq_some_iff.1 h).1;have e:row=row.take i++c::row.drop (i+1):=by
   conv=>lhs;rw[<-List.take_append_drop i row]
   rw[List.drop_eq_getElem_cons hi];congr 2;rw[List.getElem?_eq_getElem hi] at h;exact Option.some.inj h
  conv=>rhs;rw[e]
  exact List.perm_middle.symm
theorem row0_mem (c:UInt8):c∈row0:=by
 unfold row0;rw[List.mem_map];exact⟨c.toNat,by rw[List.mem_range];exact c.toNat_lt,by simp⟩
theorem length_row0:row0.length=256:=by simp[row0]
theorem plc_lt (c:UInt8):∀(row:List UInt8),c∈row->plc c row<row.length/\row[plc c row]? =some c
 | [],h=>by simp at h
 |d::l,h=>by
  simp only[plc];split
  ·rename_i e;subst e;simp
  ·rename_i e
   have hc:c∈l:=by
    rcases List.mem_cons.1 h with rfl|h
    ·exact absurd rfl e
    ·exact h
   obtain⟨h1,h2⟩:=plc_lt c l hc;refine⟨by simp;omega,by simpa using h2⟩
def rks:List UInt8->List UInt8->List Int
 |_,[]=>[]
 |row,c::l=>(plc c row:Int)::rks (mv row (plc c row)) l
def txt:List UInt8->List Int->List UInt8
 |_,[]=>[]
 |row,r::l=>(row[r.toNat]?.getD 0)::txt (mv row r.toNat) l
theorem length_rks:∀(l row:List UInt8),(rks row l).length=l.length
 | [],_=>rfl
 |c::l,row=>by simp[rks,length_rks l]
theorem txt_rks:∀(l row:List UInt8),row.length=256->(∀c,c∈row)->txt row (rks row l)=l/\(rks row l).all (fun r=>decide (0<=r)&&decide (r<=255))=true
 | [],_,_,_=>⟨rfl,rfl⟩
 |c::l,row,hl,hm=>by
  obtain⟨h1,h2⟩:=plc_lt c row (hm c);have ih:=txt_rks l (mv row (plc c row)) (by rw[length_mv,hl]) (fun d=>(mv_perm row _).mem_iff.2 (hm d));simp only[rks,txt,Int.toNat_natCast,h2,Option.getD_some];refine⟨by rw[ih.1],?_⟩;simp only[List.all_cons,ih.2,Bool.and_true,Bool.and_eq_true,decide_eq_true_eq];omega
end Fr
end Go.Proofs.YtjligbmickfbdaaGreat
