/- A log's state, rows of entries, as arguments. Over any program. The types that a log's state is made of, in this program. -/
import Derived.Test.YtphfmgapiimliaaGreatSc06
import Derived.Test.YtphfmgapiimliaaGreatRows
namespace Go.Proofs.YtphfmgapiimliaaGreat
namespace Op
open Go.RowKit Go.ChangeShapes Go.WideShapes Go.Deep Hd Rd
section
variable {H:Type} {enc:TypeId×Value->H} {P:Program} {w:World} {base:Nat} {spare:Nat->Bool} {held:Bool}
theorem trod_fields {t:TypeId} {fs:Array Field} {L:List (Nat×Nat×TypeId)} {fuel:Nat} {cs:List Value} {x:DataW H×List MemPlace} (ht:P.underlying t=some (.struct fs))
  (hL:fs.toList.map (fun f=>(f.offset,P.cellsOf f.type,f.type))=L) (h:DataW.trod enc P w base spare held fuel t cs=some x) :
  cs.length=P.cellsOf t/\ ∃n,∀(i o s:Nat) (ty:TypeId),L[i]? =some (o,s,ty)-> ∃y,DataW.trod enc P w base spare held n ty ((cs.drop o).take s)=some y:=by
 obtain⟨xs,n,-,-,hl,hlen,hf⟩:=DataW.trod_struct ht h;refine⟨hl,n,fun i o s ty hi=>?_⟩;rw[<-hL,List.getElem?_map] at hi;rcases hg:fs.toList[i]? with _|f
 ·rw[hg] at hi;cases hi
 ·rw[hg] at hi
  simp only[Option.map_some,Option.some.injEq,Prod.mk.injEq] at hi;obtain⟨rfl,rfl,rfl⟩:=hi;have hg':fs[i]? =some f:=by rw[<-hg,Array.getElem?_toList]
  have:=hf i f hg';have hi:i<xs.length:=by rw[hlen];exact(Array.getElem?_eq_some_iff.1 hg').1
  rw[List.getElem?_eq_getElem hi] at this;exact⟨_,this⟩
variable {ti:TypeId} (hi:P.underlying ti=some (.int .i64))
include hi
theorem dec_head {t:TypeId} {fs:Array Field} {fuel:Nat} {cs:List Value} {x:DataW H×List MemPlace} (ht:P.underlying t=some (.struct fs))
  (hL:fs.toList.map (fun f=>(f.offset,P.cellsOf f.type,f.type))=[(0,1,ti),(1,1,ti),(2,1,ti)]) (hc:P.cellsOf t=3) (h:DataW.trod enc P w base spare held fuel t cs=some x) :
  ∃a b c:Int,cs=[.int .i64 a,.int .i64 b,.int .i64 c]:=by
 obtain⟨hl,n,hf⟩:=trod_fields ht hL h;rw[hc] at hl
 match cs,hl with
 | [c0,c1,c2],_ =>
   obtain⟨y0,g0⟩:=hf 0 _ _ _ rfl;obtain⟨y1,g1⟩:=hf 1 _ _ _ rfl;obtain⟨y2,g2⟩:=hf 2 _ _ _ rfl;obtain⟨a,e0,-,-⟩:=DataW.trod_int hi g0;obtain⟨b,e1,-,-⟩:=DataW.trod_int hi g1;obtain⟨c,e2,-,-⟩:=DataW.trod_int hi g2;simp at e0 e1 e2
   subst e0 e1 e2;exact⟨a,b,c,rfl⟩
theorem dec_mi {t:TypeId} {fs:Array Field} {fuel:Nat} {cs:List Value} {x:DataW H×List MemPlace} (ht:P.underlying t=some (.struct fs))
  (hL:fs.toList.map (fun f=>(f.offset,P.cellsOf f.type,f.type))=[(0,1,ti),(1,1,ti),(2,1,ti),(3,1,ti),(4,1,ti),(5,1,ti),(6,1,ti)]) (hc:P.cellsOf t=7) (h:DataW.trod enc P w base spare held fuel t cs=some x) :
  ∃x:Mi,cs=Sh.cl x:=by
 obtain⟨hl,n,hf⟩:=trod_fields ht hL h;rw[hc] at hl
 match cs,hl with
 | [c0,c1,c2,c3,c4,c5,c6],_ =>
   obtain⟨y0,g0⟩:=hf 0 _ _ _ rfl;obtain⟨y1,g1⟩:=hf 1 _ _ _ rfl;obtain⟨y2,g2⟩:=hf 2 _ _ _ rfl;obtain⟨y3,g3⟩:=hf 3 _ _ _ rfl;obtain⟨y4,g4⟩:=hf 4 _ _ _ rfl;obtain⟨y5,g5⟩:=hf 5 _ _ _ rfl;obtain⟨y6,g6⟩:=hf 6 _ _ _ rfl;obtain⟨a,e0,-,-⟩:=DataW.trod_int hi g0;obtain⟨b,e1,-,-⟩:=DataW.trod_int hi g1;obtain⟨c,e2,-,-⟩:=DataW.trod_int hi g2;obtain⟨d,e3,-,-⟩:=DataW.trod_int hi g3;obtain⟨e,e4,-,-⟩:=DataW.trod_int hi g4;obtain⟨f,e5,-,-⟩:=DataW.trod_int hi g5;obtain⟨g,e6,-,-⟩:=DataW.trod_int hi g6;simp at e0 e1 e2 e3 e4 e5 e6
   subst e0 e1 e2 e3 e4 e5 e6;exact⟨⟨a,b,c,d,e,f,g⟩,rfl⟩
theorem dec_rc {t ts:TypeId} (hs:P.underlying ts=some .string) {fs:Array Field} {fuel:Nat} {cs:List Value} {x:DataW H×List MemPlace} (ht:P.underlying t=some (.struct fs))
  (hL:fs.toList.map (fun f=>(f.offset,P.cellsOf f.type,f.type))=[(0,1,ti),(1,1,ti),(2,1,ts)]) (hc:P.cellsOf t=3) (h:DataW.trod enc P w base spare held fuel t cs=some x) :
  ∃x:Rc,cs=Sh.cl x:=by
 obtain⟨hl,n,hf⟩:=trod_fields ht hL h;rw[hc] at hl
 match cs,hl with
 | [c0,c1,c2],_ =>
   obtain⟨y0,g0⟩:=hf 0 _ _ _ rfl;obtain⟨y1,g1⟩:=hf 1 _ _ _ rfl;obtain⟨y2,g2⟩:=hf 2 _ _ _ rfl;obtain⟨a,e0,-,-⟩:=DataW.trod_int hi g0;obtain⟨b,e1,-,-⟩:=DataW.trod_int hi g1;obtain⟨c,e2,-,-⟩:=DataW.trod_string hs g2;simp at e0 e1 e2
   subst e0 e1 e2;exact⟨(a,b,c),rfl⟩
theorem dec_en {t th tb:TypeId} (hb:P.underlying tb=some .bool) {fs gs:Array Field} {fuel:Nat} {cs:List Value} {x:DataW H×List MemPlace} (ht:P.underlying t=some (.struct fs))
  (hL:fs.toList.map (fun f=>(f.offset,P.cellsOf f.type,f.type))=[(0,3,th),(3,1,tb),(4,1,ti),(5,1,ti),(6,1,ti),(7,1,ti),(8,1,ti)]) (hc:P.cellsOf t=9)
  (hth:P.underlying th=some (.struct gs)) (hG:gs.toList.map (fun f=>(f.offset,P.cellsOf f.type,f.type))=[(0,1,ti),(1,1,ti),(2,1,ti)]) (hch:P.cellsOf th=3) (h:DataW.trod enc P w base spare held fuel t cs=some x) :
  ∃x:En,cs=Sh.cl x:=by
 obtain⟨hl,n,hf⟩:=trod_fields ht hL h;rw[hc] at hl
 match cs,hl with
 | [c0,c1,c2,c3,c4,c5,c6,c7,c8],_ =>
   obtain⟨y0,g0⟩:=hf 0 _ _ _ rfl;obtain⟨y1,g1⟩:=hf 1 _ _ _ rfl;obtain⟨y2,g2⟩:=hf 2 _ _ _ rfl;obtain⟨y3,g3⟩:=hf 3 _ _ _ rfl;obtain⟨y4,g4⟩:=hf 4 _ _ _ rfl;obtain⟨y5,g5⟩:=hf 5 _ _ _ rfl;obtain⟨y6,g6⟩:=hf 6 _ _ _ rfl;obtain⟨p,q,r,e0⟩:=dec_head hi hth hG hch g0;obtain⟨b,e1,-⟩:=DataW.trod_bool hb g1;obtain⟨c,e2,-,-⟩:=DataW.trod_int hi g2;obtain⟨d,e3,-,-⟩:=DataW.trod_int hi g3;obtain⟨e,e4,-,-⟩:=DataW.trod_int hi g4;obtain⟨f,e5,-,-⟩:=DataW.trod_int hi g5;obtain⟨g,e6,-,-⟩:=DataW.trod_int hi g6;simp at e0 e1 e2 e3 e4 e5 e6
   obtain⟨rfl,rfl,rfl⟩:=e0;subst e1 e2 e3 e4 e5 e6;exact⟨⟨p,q,r,b,c,d,e,f,g⟩,rfl⟩
end
section
variable {H:Type} {enc:TypeId×Value->H} {P:Program} {w:World}
structure Tys (P:Program) where
 ti:TypeId
 ts:TypeId
 tb:TypeId
 th:TypeId
 te:TypeId
 tm:TypeId
 tr:TypeId
 tc:TypeId
 tf:TypeId
 st:TypeId
 sle:TypeId
 slm:TypeId
 slr:TypeId
 fh:Array Field
 fe:Array Field
 fm:Array Field
 fr:Array Field
 fc:Array Field
 ff:Array Field
 fst:Array Field
 hi:P.underlying ti=some (.int .i64)
 hs:P.underlying ts=some .string
 hb:P.underlying tb=some .bool
 hh:P.underlying th=some (.struct fh)
 he:P.underlying te=some (.struct fe)
 hm:P.underlying tm=some (.struct fm)
 hr:P.underlying tr=some (.struct fr)
 hc:P.underlying tc=some (.struct fc)
 hf:P.underlying tf=some (.struct ff)
 hst:P.underlying st=some (.struct fst)
 hle:P.underlying sle=some (.slice te)
 hlm:P.underlying slm=some (.slice tm)
 hlr:P.underlying slr=some (.slice tr)
 Lh:fh.toList.map (fun f=>(f.offset,P.cellsOf f.type,f.type))=[(0,1,ti),(1,1,ti),(2,1,ti)]
 Le:fe.toList.map (fun f=>(f.offset,P.cellsOf f.type,f.type))=[(0,3,th),(3,1,tb),(4,1,ti),(5,1,ti),(6,1,ti),(7,1,ti),(8,1,ti)]
 Lm:fm.toList.map (fun f=>(f.offset,P.cellsOf f.type,f.type))=[(0,1,ti),(1,1,ti),(2,1,ti),(3,1,ti),(4,1,ti),(5,1,ti),(6,1,ti)]
 Lr:fr.toList.map (fun f=>(f.offset,P.cellsOf f.type,f.type))=[(0,1,ti),(1,1,ti),(2,1,ts)]
 Lc:fc.toList.map (fun f=>(f.offset,P.cellsOf f.type,f.type))=[(0,1,ti),(1,1,ti),(2,1,ti),(3,1,ti),(4,1,ti),(5,1,ti),(6,1,ti)]
 Lf:ff.toList.map (fun f=>(f.offset,P.cellsOf f.type,f.type))=[(0,1,ti),(1,1,ti),(2,1,ti),(3,1,ti),(4,1,sle)]
 Lst:fst.toList.map (fun f=>(f.offset,P.cellsOf f.type,f.type))=[(0,7,tc),(7,5,tf),(12,1,slm),(13,1,ti),(14,1,ti),(15,1,ti),(16,1,slr),(17,1,tb)]
 zs:[P.cellsOf th,P.cellsOf te,P.cellsOf tm,P.cellsOf tr,P.cellsOf tc,P.cellsOf tf,P.cellsOf st]=[3,9,7,3,7,5,18]
theorem open_ens (T:Tys P) {v:Value} {fuel:Nat} {y:DataW H×List MemPlace} (hf:DataW.trod enc P w 0 (fun _=>true) true fuel T.sle [v]=some y) :
  ∃(s:Sl) (l:List En),v=s.v/\Rd w w.heap.size 9 s.A s.n (flS l)/\s.n<=s.c/\s.c<=maxLen/\(s.A=none->s.c=0):=by
 have hz:=T.zs;simp only[List.cons.injEq] at hz;obtain⟨A,n,c,l,rfl,h1,h2,h3,-,h5⟩:=open_sl (α:=En) T.hle hz.2.1 (fun cs' fuel y h=>dec_en T.hi T.hb T.he T.Le hz.2.1 T.hh T.Lh hz.1 h) hf;exact⟨⟨A,n,c⟩,l,rfl,h1,h2,h3,h5⟩
theorem open_state (T:Tys P) {b0:Nat} {r:Reach} {v:Value} {d:DataW H} {p:List MemPlace} (hv:Value.okWide P w r b0 T.st v) (h:DataW.Trod enc P w 0 (fun _=>true) true T.st v d p) :
  ∃(s:St) (x y z:Sl),v=.agg (stc s x y z)/\Str w w.heap.size s x y z:=by
 have hz:=T.zs;simp only[List.cons.injEq] at hz;obtain⟨z1,z2,z3,z4,z5,z6,z7,-⟩:=hz;obtain⟨cs,rfl,hsz⟩:=okWide_struct T.hst hv;obtain⟨fuel,hf⟩:=h;obtain⟨hl,n,hq⟩:=trod_fields T.hst T.Lst hf;rw[z7] at hl hsz;obtain⟨cl⟩:=cs;simp only[Value.cells] at hl hq
 match cl,hl with
 | [c0,c1,c2,c3,c4,c5,c6,c7,c8,c9,c10,c11,c12,c13,c14,c15,c16,c17],_ =>
   obtain⟨y0,g0⟩:=hq 0 _ _ _ rfl;obtain⟨y1,g1⟩:=hq 1 _ _ _ rfl;obtain⟨y2,g2⟩:=hq 2 _ _ _ rfl;obtain⟨y3,g3⟩:=hq 3 _ _ _ rfl;obtain⟨y4,g4⟩:=hq 4 _ _ _ rfl;obtain⟨y5,g5⟩:=hq 5 _ _ _ rfl;obtain⟨y6,g6⟩:=hq 6 _ _ _ rfl;obtain⟨y7,g7⟩:=hq 7 _ _ _ rfl;obtain⟨m,e0⟩:=dec_mi T.hi T.hc T.Lc z5 g0;obtain⟨hl1,n1,k1⟩:=trod_fields T.hf T.Lf g1;obtain⟨u0,f0⟩:=k1 0 _ _ _ rfl;obtain⟨u1,f1⟩:=k1 1 _ _ _ rfl;obtain⟨u2,f2⟩:=k1 2 _ _ _ rfl;obtain⟨u3,f3⟩:=k1 3 _ _ _ rfl;obtain⟨u4,f4⟩:=k1 4 _ _ _ rfl;obtain⟨q0,r0,-,-⟩:=DataW.trod_int T.hi f0;obtain⟨q1,r1,-,-⟩:=DataW.trod_int T.hi f1;obtain⟨q2,r2,-,-⟩:=DataW.trod_int T.hi f2;obtain⟨q3,r3,-,-⟩:=DataW.trod_int T.hi f3;obtain⟨x,es,r4,a1,a2,a3,a4⟩:=open_ens T (v:=c11) f4;obtain⟨A,n2,c,bs,r5,b1,b2,b3,-,b4⟩:=open_sl (α:=Mi) T.hlm z3 (fun cs' fuel y h=>dec_mi T.hi T.hm T.Lm z3 h) (v:=c12) g2;obtain⟨A',n3,c',ws,r6,d1,d2,d3,-,d4⟩:=open_sl (α:=Rc) T.hlr z4 (fun cs' fuel y h=>dec_rc T.hi T.hs T.hr T.Lr z4 h) (v:=c16) g6;obtain⟨q4,r7,-,-⟩:=DataW.trod_int T.hi g3;obtain⟨q5,r8,-,-⟩:=DataW.trod_int T.hi g4;obtain⟨q6,r9,-,-⟩:=DataW.trod_int T.hi g5;obtain⟨q7,r10,-⟩:=DataW.trod_bool T.hb g7;simp[Sh.cl,cl7i] at e0 r0 r1 r2 r3 r7 r8 r9 r10
   obtain⟨rfl,rfl,rfl,rfl,rfl,rfl,rfl⟩:=e0;subst r0 r1 r2 r3 r4 r5 r6 r7 r8 r9 r10;exact⟨⟨⟨m.a,m.s,m.r,m.c,m.f,m.e,m.l⟩,⟨q0,q1,q2,q3,es⟩,bs,q4,q5,q6,ws,q7⟩,x,⟨A,n2,c⟩,⟨A',n3,c'⟩,rfl,⟨a1,b1,d1,⟨a2,b2,d2⟩,⟨a3,b3,d3⟩,⟨a4,b4,d4⟩⟩⟩
end
end Op
end Go.Proofs.YtphfmgapiimliaaGreat
namespace Go.Proofs.YtphfmgapiimliaaGreat
namespace Op
open Go.RowKit
def tysO:Tys Tryz.prog where
 ti:=3
 ts:=9
 tb:=4
 th:=35
 te:=48
 tm:=66
 tr:=33
 tc:=23
 tf:=26
 st:=30
 sle:=24
 slm:=27
 slr:=28
 fh:=_
 fe:=_
 fm:=_
 fr:=_
 fc:=_
 ff:=_
 fst:=_
 hi:=Tryz.underlying3
 hs:=Tryz.underlying9
 hb:=Tryz.underlying4
 hh:=Tryz.underlying35
 he:=Tryz.underlying48
 hm:=Tryz.underlying66
 hr:=Tryz.underlying33
 hc:=Tryz.underlying23
 hf:=Tryz.underlying26
 hst:=Tryz.underlying30
 hle:=Tryz.underlying24
 hlm:=Tryz.underlying27
 hlr:=Tryz.underlying28
 Lh:=by kernel_rfl
 Le:=by kernel_rfl
 Lm:=by kernel_rfl
 Lr:=by kernel_rfl
 Lc:=by kernel_rfl
 Lf:=by kernel_rfl
 Lst:=by kernel_rfl
 zs:=by kernel_rfl
end Op
end Go.Proofs.YtphfmgapiimliaaGreat
