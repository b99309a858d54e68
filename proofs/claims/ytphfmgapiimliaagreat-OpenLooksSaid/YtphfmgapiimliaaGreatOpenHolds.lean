/- OpenLooks holds: whatever two states. No conditions. -/
import Derived.Test.YtphfmgapiimliaaGreatOl51
import Derived.Test.YtphfmgapiimliaaGreatOl52
import Derived.ProofKit
namespace Go.Proofs.YtphfmgapiimliaaGreat
namespace Op
open Go.ChangeShapes Go.WideShapes Go.ChangeAt Go.RowKit
open Go.ChangeMaps (open_string)
theorem own0:ownKnob Tryz.prog.godebug=none:=by kernel_rfl
theorem laid0:laidOutB Tryz.prog=true:=by kernel_rfl
set_option maxRecDepth 100000 in
theorem openLooks_lifted (os:Os) (started:os.Started) (H:Type) (enc:TypeId×Value->H) :
  ReturnsInHanded {} Tryz.checked os 3 .any (Rows.openLooksSpec.pre6 enc Tryz.prog Tryz.f3 Rows.openLooksRow.domain false) (Rows.openLooksSpec.post enc Tryz.prog Tryz.f3 false true false false):=by
 refine returnsInHanded_of_change (C:=Tryz.checked) own0 started (by kernel_rfl) Tryz.func3
  (ChangeSpec.witness6 (enc:=enc) (C:=Tryz.checked) false ⟨#[],#[.agg #[.int .i64 0,.int .i64 0,.int .i64 0,.int .i64 0,.int .i64 0,.int .i64 0,.int .i64 0,.int .i64 0,.int .i64 0,.int .i64 0,.int .i64 0,.slice none 0 0,.slice none 0 0,.int .i64 0,.int .i64 0,.int .i64 0,.slice none 0 0,.bool false],.agg #[.int .i64 0,.int .i64 0,.int .i64 0,.int .i64 0,.int .i64 0,.int .i64 0,.int .i64 0,.int .i64 0,.int .i64 0,.int .i64 0,.int .i64 0,.slice none 0 0,.slice none 0 0,.int .i64 0,.int .i64 0,.int .i64 0,.slice none 0 0,.bool false]],[]⟩ 8 (by kernel_rfl) (by kernel_rfl) (by kernel_rfl) (by kernel_rfl)) ?_
 intro W base args ds gs before hval0 hW hcnd _;have hval:∀(j:Nat) t v,Tryz.f3.params[j]? =some t->args[j]? =some v->Value.okWide Tryz.prog W .any base t v:=hval0;have hW':=hW;obtain⟨p,q,hA0,hV,rfl,hfz,hnd⟩:=hW;have hA:DataW.TrodAll enc Tryz.prog W 0 (fun _=>true) true Tryz.f3.params.toList args.toList ds p:=hA0;rw[Tryz.params3] at hA hval;obtain⟨v0,v1,d0,d1,p0,p1,rfl,rfl,rfl,h0,h1⟩:=trodAll_two hA;obtain⟨rfl,rfl⟩:=trodVars_none hV;obtain⟨s0,x0,y0,z0,rfl,st0⟩:=Op.open_state Op.tysO (hval 0 30 v0 rfl rfl) h0;obtain⟨s1,x1,y1,z1,rfl,st1⟩:=Op.open_state Op.tysO (hval 1 30 v1 rfl rfl) h1;refine(olooks_any s0 x0 y0 z0 s1 x1 y1 z1 W st0 st1).mono fun e W' ⟨he,hb⟩=>?_
 subst he;exact⟨_,rfl,post_true laid0 rfl rfl Tryz.underlying4 rfl rfl rfl (by rw[show Tryz.f3.params.toList=[30,30] from rfl];decide +kernel) hW' hb⟩
theorem openLooks_holds:Rows.OpenLooksSaid :=
 OpenClaim.holds_of_wide 3 Tryz.f3 rfl rfl rfl rfl rfl rfl rfl ⟨rfl,rfl,rfl,rfl,rfl⟩ rfl rfl rfl rfl rfl (by kernel_rfl) Tryz.func3 (by kernel_rfl)
  (of_decide_eq_true (by kernel_rfl)) (by unfold Func.isWrapper;first|(rw[if_pos (by decide +kernel)];kernel_rfl)|(rw[if_neg (by decide +kernel)];exact⟨rfl,rfl⟩))
  (fun os started H enc _=>openLooks_lifted os started H enc)
#print axioms openLooks_holds
end Op
end Go.Proofs.YtphfmgapiimliaaGreat
