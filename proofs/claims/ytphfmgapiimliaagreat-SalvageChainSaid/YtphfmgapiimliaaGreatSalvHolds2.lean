/- SalvageChain holds: whatever entries. No conditions. -/
import Derived.Test.YtphfmgapiimliaaGreatSd01
import Derived.Test.YtphfmgapiimliaaGreatSc49
import Derived.ProofKit
namespace Go.Proofs.YtphfmgapiimliaaGreat
namespace Op
open Go.ChangeShapes Go.WideShapes Go.ChangeAt Go.RowKit
open Go.ChangeMaps (open_string)
theorem own0:ownKnob Tryz.prog.godebug=none:=by kernel_rfl
theorem laid0:laidOutB Tryz.prog=true:=by kernel_rfl
set_option maxRecDepth 100000 in
theorem salvageChain_lifted (os:Os) (started:os.Started) (H:Type) (enc:TypeId×Value->H) :
  ReturnsInHanded {} Tryz.checked os 5 .any (Rows.salvageChainSpec.pre6 enc Tryz.prog Tryz.f5 Rows.salvageChainRow.domain false) (Rows.salvageChainSpec.post enc Tryz.prog Tryz.f5 false true false false):=by
 refine returnsInHanded_of_change (C:=Tryz.checked) own0 started (by kernel_rfl) Tryz.func5
  (ChangeSpec.witness6 (enc:=enc) (C:=Tryz.checked) false ⟨#[],#[.slice none 0 0],[]⟩ 8 (by kernel_rfl) (by kernel_rfl) (by kernel_rfl) (by kernel_rfl)) ?_
 intro W base args ds gs before hval0 hW hcnd _;have hval:∀(j:Nat) t v,Tryz.f5.params[j]? =some t->args[j]? =some v->Value.okWide Tryz.prog W .any base t v:=hval0;have hW':=hW;obtain⟨p,q,hA0,hV,rfl,hfz,hnd⟩:=hW;have hA:DataW.TrodAll enc Tryz.prog W 0 (fun _=>true) true Tryz.f5.params.toList args.toList ds p:=hA0;rw[Tryz.params5] at hA hval;obtain⟨v0,d0,rfl,rfl,h0⟩:=trodAll_one hA;obtain⟨rfl,rfl⟩:=trodVars_none hV;have hc0:v0.cells.toList=[v0]:=by
  obtain⟨_,_,_,rfl⟩:=okWide_slice Tryz.underlying24 (hval 0 24 v0 rfl rfl);rfl
 obtain⟨fuel0,hf0⟩:=h0;rw[hc0] at hf0;obtain⟨s0,l0,rfl,rd0,hn0,hm0,hz0⟩:=Op.open_ens Op.tysO hf0;refine(schain_any s0 l0 W rd0 hn0 hz0).mono fun e W' ⟨he,hb⟩=>?_
 subst he;exact⟨_,rfl,post_true laid0 rfl rfl Tryz.underlying4 rfl rfl rfl (by rw[show Tryz.f5.params.toList=[24] from rfl];decide +kernel) hW' hb⟩
theorem salvageChain_holds:Rows.SalvageChainSaid :=
 OpenClaim.holds_of_wide 5 Tryz.f5 rfl rfl rfl rfl rfl rfl rfl ⟨rfl,rfl,rfl,rfl,rfl⟩ rfl rfl rfl rfl rfl (by kernel_rfl) Tryz.func5 (by kernel_rfl)
  (of_decide_eq_true (by kernel_rfl)) (by unfold Func.isWrapper;first|(rw[if_pos (by decide +kernel)];kernel_rfl)|(rw[if_neg (by decide +kernel)];exact⟨rfl,rfl⟩))
  (fun os started H enc _=>salvageChain_lifted os started H enc)
#print axioms salvageChain_holds
end Op
end Go.Proofs.YtphfmgapiimliaaGreat
