/- Rows of places as arguments. Over any program. -/
import Derived.Test.YtejcdhdfanfkbaaGreatFb50
import Derived.Test.YtejcdhdfanfkbaaGreatFb15
namespace Go.Proofs.YtejcdhdfanfkbaaGreat
namespace Fo
open Go.RowKit Go.ChangeShapes Go.WideShapes Go.Deep Rd
section
variable {H:Type} {enc:TypeId×Value->H} {P:Program} {w:World} {base:Nat} {spare:Nat->Bool} {held:Bool}
theorem dec_pl {ti ts t:TypeId} (hi:P.underlying ti=some (.int .i64)) (hs:P.underlying ts=some .string) {fs:Array Field} {fuel:Nat} {cs:List Value} {x:DataW H×List MemPlace} (ht:P.underlying t=some (.struct fs))
  (hL:fs.toList.map (fun f=>(f.offset,P.cellsOf f.type,f.type))=[(0,1,ts),(1,1,ti)]) (hc:P.cellsOf t=2) (h:DataW.trod enc P w base spare held fuel t cs=some x) :
  ∃x:Pl,cs=Sh.cl x:=by
 obtain⟨hl,n,hf⟩:=Op.trod_fields ht hL h;rw[hc] at hl
 match cs,hl with
 | [c0,c1],_ =>
   obtain⟨y0,g0⟩:=hf 0 _ _ _ rfl;obtain⟨y1,g1⟩:=hf 1 _ _ _ rfl;obtain⟨a,e0,-,-⟩:=DataW.trod_string hs g0;obtain⟨b,e1,-,-⟩:=DataW.trod_int hi g1;simp at e0 e1
   subst e0 e1;exact⟨⟨a,b⟩,rfl⟩
theorem open_pls {ti ts t sl:TypeId} (hi:P.underlying ti=some (.int .i64)) (hs:P.underlying ts=some .string) {fs:Array Field} (ht:P.underlying t=some (.struct fs))
  (hL:fs.toList.map (fun f=>(f.offset,P.cellsOf f.type,f.type))=[(0,1,ts),(1,1,ti)]) (hc:P.cellsOf t=2) (hsl:P.underlying sl=some (.slice t))
  {v:Value} {fuel:Nat} {y:DataW H×List MemPlace} (hf:DataW.trod enc P w 0 (fun _=>true) true fuel sl [v]=some y) :
  ∃(A:Option Addr) (n c:Nat) (l:List Pl),v=.slice A n c/\Rd w w.heap.size 2 A n (flS l)/\n<=maxLen:=by
 obtain⟨A,n,c,l,rfl,h1,h2,h3,-,-⟩:=open_sl (α:=Pl) hsl hc (fun cs' fuel y h=>dec_pl hi hs ht hL hc h) hf;exact⟨A,n,c,l,rfl,h1,Nat.le_trans h2 h3⟩
end
end Fo
end Go.Proofs.YtejcdhdfanfkbaaGreat
