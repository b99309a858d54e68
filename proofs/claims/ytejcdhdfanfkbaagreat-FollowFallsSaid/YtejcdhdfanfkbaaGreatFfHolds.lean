/- FollowFalls: wherever the power goes while places are saved, the elder or the new ones are loaded. No conditions. -/
import Derived.Test.YtejcdhdfanfkbaaGreatFf03
import Derived.Test.YtejcdhdfanfkbaaGreatFb51
import Derived.Test.YtejcdhdfanfkbaaGreatRows
import Derived.ProofKit
namespace Go.Proofs.YtejcdhdfanfkbaaGreat
namespace Fo
open Go.ChangeShapes Go.WideShapes Go.ChangeAt Go.RowKit
open Go.ChangeMaps (open_string)
theorem own0:ownKnob Tryz.prog.godebug=none:=by kernel_rfl
theorem laid0:laidOutB Tryz.prog=true:=by kernel_rfl
set_option maxRecDepth 100000 in
theorem followFalls_lifted (os:Os) (started:os.Started) (H:Type) (enc:TypeId×Value->H) :
  ReturnsInHanded {} Tryz.checked os 5 .any (Rows.followFallsSpec.pre6 enc Tryz.prog Tryz.f5 Rows.followFallsRow.domain false) (Rows.followFallsSpec.post enc Tryz.prog Tryz.f5 false true false false):=by
 refine returnsInHanded_of_change (C:=Tryz.checked) own0 started (by kernel_rfl) Tryz.func5
  (ChangeSpec.witness6 (enc:=enc) (C:=Tryz.checked) false ⟨#[],#[.slice none 0 0,.slice none 0 0,.agg #[.int .i64 0,.int .i64 0,.slice none 0 0,.slice none 0 0]],[]⟩ 8 (by kernel_rfl) (by kernel_rfl) (by kernel_rfl) (by kernel_rfl)) ?_
 intro W base args ds gs before hval0 hW hcnd _;have hval:∀(j:Nat) t v,Tryz.f5.params[j]? =some t->args[j]? =some v->Value.okWide Tryz.prog W .any base t v:=hval0;have hW':=hW;obtain⟨p,q,hA0,hV,rfl,hfz,hnd⟩:=hW;have hA:DataW.TrodAll enc Tryz.prog W 0 (fun _=>true) true Tryz.f5.params.toList args.toList ds p:=hA0;rw[Tryz.params5] at hA hval;obtain⟨v0,v1,v2,d0,d1,d2,p0,p1,p2,rfl,rfl,rfl,h0,h1,h2⟩:=trodAll_three hA;obtain⟨rfl,rfl⟩:=trodVars_none hV;have hc0:v0.cells.toList=[v0]:=by
  obtain⟨_,_,_,rfl⟩:=okWide_slice Tryz.underlying22 (hval 0 22 v0 rfl rfl);rfl
 obtain⟨fuel0,hf0⟩:=h0;rw[hc0] at hf0;obtain⟨a0,n0,c0,l0,rfl,rd0,hn0⟩:=Fo.open_pls Tryz.underlying3 Tryz.underlying9 Tryz.underlying37 (by kernel_rfl) (by kernel_rfl) Tryz.underlying22 hf0;have hc1:v1.cells.toList=[v1]:=by
  obtain⟨_,_,_,rfl⟩:=okWide_slice Tryz.underlying22 (hval 1 22 v1 rfl rfl);rfl
 obtain⟨fuel1,hf1⟩:=h1;rw[hc1] at hf1;obtain⟨a1,n1,c1,l1,rfl,rd1,hn1⟩:=Fo.open_pls Tryz.underlying3 Tryz.underlying9 Tryz.underlying37 (by kernel_rfl) (by kernel_rfl) Tryz.underlying22 hf1;obtain⟨m2,r2,A2,N2,C2,cu2,B2,M2,D2,mk2,rfl,am2,ac2,an2,ak2,ao2⟩:=Fo.open_arms Tryz.underlying3 Tryz.underlying9 Tryz.underlying50 Tryz.underlying52 Tryz.underlying47 Tryz.underlying48 (by kernel_rfl) (by kernel_rfl) (by kernel_rfl) (hval 2 52 v2 rfl rfl) h2;refine(ffalls_any a0 n0 c0 l0 a1 n1 c1 l1 m2 r2 A2 N2 C2 cu2 B2 M2 D2 mk2 W rd0 hn0 rd1 hn1 am2 ac2 an2 ak2 ao2).mono fun e W' ⟨he,hb⟩=>?_
 subst he;exact⟨_,rfl,post_true laid0 rfl rfl Tryz.underlying4 rfl rfl rfl (by rw[show Tryz.f5.params.toList=[22,22,52] from rfl];decide +kernel) hW' hb⟩
theorem followFalls_c1:(Rows.followFallsRow.inPlace==Tryz.prog.inPlace 5)=true:=by kernel_rfl
theorem followFalls_c2:(Rows.followFallsRow.unfollowed==Tryz.prog.unfollowed 5)=true:=by kernel_rfl
theorem followFalls_c3:(Rows.followFallsRow.recurses==Tryz.prog.recurses 5)=true:=by kernel_rfl
theorem followFalls_c4:(Rows.followFallsRow.named==Tryz.prog.varsNamed 5)=true:=by kernel_rfl
set_option maxRecDepth 100000 in
theorem followFalls_closed:joinedFacts Tryz.prog 5 Tryz.f5 Rows.followFallsSpec Rows.followFallsRow=true:=by
 unfold joinedFacts;rw[followFalls_c1,followFalls_c2,followFalls_c3,followFalls_c4]
 kernel_rfl
theorem followFalls_holds:Rows.FollowFallsSaid :=
 OpenClaim.holds_of_wide 5 Tryz.f5 rfl rfl rfl rfl rfl rfl rfl ⟨rfl,rfl,rfl,rfl,rfl⟩ rfl rfl rfl rfl rfl (by kernel_rfl) Tryz.func5 followFalls_closed
  (of_decide_eq_true (by kernel_rfl)) (by unfold Func.isWrapper;first|(rw[if_pos (by decide +kernel)];kernel_rfl)|(rw[if_neg (by decide +kernel)];exact⟨rfl,rfl⟩))
  (fun os started H enc _=>followFalls_lifted os started H enc)
#print axioms followFalls_holds
end Fo
end Go.Proofs.YtejcdhdfanfkbaaGreat
