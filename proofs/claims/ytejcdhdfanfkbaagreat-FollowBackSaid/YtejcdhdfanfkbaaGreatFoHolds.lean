/- FollowBack: places come back of their bytes; what is taken as such is just that. No conditions. -/
import Derived.Test.YtejcdhdfanfkbaaGreatFb50
import Derived.Test.YtejcdhdfanfkbaaGreatFb51
import Derived.Test.YtejcdhdfanfkbaaGreatRows
import Derived.ProofKit
namespace Go.Proofs.YtejcdhdfanfkbaaGreat
namespace Fo
open Go.ChangeShapes Go.WideShapes Go.ChangeAt Go.RowKit
open Go.ChangeMaps (open_string)
theorem own0:ownKnob Tryz.prog.godebug=none:=by kernel_rfl
theorem laid0:laidOutB Tryz.prog=true:=by kernel_rfl
set_option maxRecDepth 100000 in
theorem followBack_lifted (os:Os) (started:os.Started) (H:Type) (enc:TypeId×Value->H) :
  ReturnsInHanded {} Tryz.checked os 4 .any (Rows.followBackSpec.pre6 enc Tryz.prog Tryz.f4 Rows.followBackRow.domain false) (Rows.followBackSpec.post enc Tryz.prog Tryz.f4 false true false false):=by
 refine returnsInHanded_of_change (C:=Tryz.checked) own0 started (by kernel_rfl) Tryz.func4
  (ChangeSpec.witness6 (enc:=enc) (C:=Tryz.checked) false ⟨#[],#[.slice none 0 0,.string ⟨#[]⟩],[]⟩ 8 (by kernel_rfl) (by kernel_rfl) (by kernel_rfl) (by kernel_rfl)) ?_
 intro W base args ds gs before hval0 hW hcnd _;have hval:∀(j:Nat) t v,Tryz.f4.params[j]? =some t->args[j]? =some v->Value.okWide Tryz.prog W .any base t v:=hval0;have hW':=hW;obtain⟨p,q,hA0,hV,rfl,hfz,hnd⟩:=hW;have hA:DataW.TrodAll enc Tryz.prog W 0 (fun _=>true) true Tryz.f4.params.toList args.toList ds p:=hA0;rw[Tryz.params4] at hA hval;obtain⟨v0,v1,d0,d1,p0,p1,rfl,rfl,rfl,h0,h1⟩:=trodAll_two hA;obtain⟨rfl,rfl⟩:=trodVars_none hV;have hc0:v0.cells.toList=[v0]:=by
  obtain⟨_,_,_,rfl⟩:=okWide_slice Tryz.underlying22 (hval 0 22 v0 rfl rfl);rfl
 obtain⟨fuel0,hf0⟩:=h0;rw[hc0] at hf0;obtain⟨a0,n0,c0,l0,rfl,rd0,hn0⟩:=Fo.open_pls Tryz.underlying3 Tryz.underlying9 Tryz.underlying37 (by kernel_rfl) (by kernel_rfl) Tryz.underlying22 hf0;obtain⟨x1,rfl,rfl,rfl,wx1⟩:=open_string Tryz.underlying9 (hval 1 9 v1 rfl rfl) h1;refine(fback_any a0 n0 c0 l0 x1 W rd0 hn0).mono fun e W' ⟨he,hb⟩=>?_
 subst he;exact⟨_,rfl,post_true laid0 rfl rfl Tryz.underlying4 rfl rfl rfl (by rw[show Tryz.f4.params.toList=[22,9] from rfl];decide +kernel) hW' hb⟩
theorem followBack_c1:(Rows.followBackRow.inPlace==Tryz.prog.inPlace 4)=true:=by kernel_rfl
theorem followBack_c2:(Rows.followBackRow.unfollowed==Tryz.prog.unfollowed 4)=true:=by kernel_rfl
theorem followBack_c3:(Rows.followBackRow.recurses==Tryz.prog.recurses 4)=true:=by kernel_rfl
theorem followBack_c4:(Rows.followBackRow.named==Tryz.prog.varsNamed 4)=true:=by kernel_rfl
set_option maxRecDepth 100000 in
theorem followBack_closed:joinedFacts Tryz.prog 4 Tryz.f4 Rows.followBackSpec Rows.followBackRow=true:=by
 unfold joinedFacts;rw[followBack_c1,followBack_c2,followBack_c3,followBack_c4]
 kernel_rfl
theorem followBack_holds:Rows.FollowBackSaid :=
 OpenClaim.holds_of_wide 4 Tryz.f4 rfl rfl rfl rfl rfl rfl rfl ⟨rfl,rfl,rfl,rfl,rfl⟩ rfl rfl rfl rfl rfl (by kernel_rfl) Tryz.func4 followBack_closed
  (of_decide_eq_true (by kernel_rfl)) (by unfold Func.isWrapper;first|(rw[if_pos (by decide +kernel)];kernel_rfl)|(rw[if_neg (by decide +kernel)];exact⟨rfl,rfl⟩))
  (fun os started H enc _=>followBack_lifted os started H enc)
#print axioms followBack_holds
end Fo
end Go.Proofs.YtejcdhdfanfkbaaGreat
