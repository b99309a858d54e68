/- tab.runs. -/
import Derived.Test.YtjligbmickfbdaaGreatBe23
import Derived.Test.YtjligbmickfbdaaGreatBe15
import Derived.Deep.LoopGhost
import Derived.BigRegion
namespace Go.Proofs.YtjligbmickfbdaaGreat
namespace Tb
open Go.RowKit
theorem runPair:Pair2 137 134:=⟨Tryz.underlying134,by kernel_rfl⟩
theorem runs_take (l:List Int) (k:Nat) (h:k<l.length):runs (l.take (k+1))=stepR (runs (l.take k)) l[k]:=by
 unfold runs;rw[List.take_add_one,List.getElem?_eq_getElem h,List.foldl_append];rfl
theorem step_nil (n:Int):stepR [] n=[(n,1)]:=rfl
theorem step_snoc (R:List (Int×Int)) (y q n:Int):stepR (R++[(y,q)]) n=if y=n then R++[(y,q+1)] else(R++[(y,q)])++[(n,1)]:=by
 unfold stepR;rw[List.getLast?_concat];simp only[List.dropLast_concat]
theorem fl2_set (l:List (Int×Int)) (k:Nat) (x:Int×Int) (v:Int) (h:l[k]? =some x):(fl2 l).set (2*k+1) (.int .i64 v)=fl2 (l.set k (x.1,v)):=by
 induction l generalizing k with
 |nil=>simp at h
 |cons y r ih =>
  have e:∀(y:Int×Int) r,fl2 (y::r)=.int .i64 y.1:: .int .i64 y.2::fl2 r:=fun _ _=>rfl
  rcases k with _|k
  ·simp at h;subst h
   rw[e,List.set_cons_zero,e];rfl
  ·rw[e,show 2*(k+1)+1=2*k+1+1+1 by omega,List.set_cons_succ,List.set_cons_succ,ih k (by simpa using h),List.set_cons_succ,e]
theorem own2_put {w:World} {B g n c:Nat} {t:TypeId} {R:List (Int×Int)} {y q:Int} (h:Own2 w B t (.slice (some ⟨g,0,none⟩) n c) (R++[(y,q)])) (v:Int) :
  Own2 (w.setCell ⟨g,2*R.length+1,none⟩ (.int .i64 v)) B t (.slice (some ⟨g,0,none⟩) n c) (R++[(y,v)]):=by
 have hn:n=(R++[(y,q)]).length:=by
  rcases h.2 with ⟨hv,h0⟩|⟨g',cap,cur,hv,_⟩
  ·cases hv
  ·cases hv;rfl
 subst hn;have:=(World.ownsRow.stored h (2*R.length+1) (.int .i64 v)).1;unfold Own2;rw[fl2_set _ R.length (y,q) v (by simp),List.set_append_right _ _ (Nat.le_refl _),Nat.sub_self,List.set_cons_zero] at this;simpa using this
theorem own2_ge {w:World} {B g n c:Nat} {t:TypeId} {R:List (Int×Int)} (h:Own2 w B t (.slice (some ⟨g,0,none⟩) n c) R):B<=g:=(World.ownsRow.lt h g rfl).1
theorem own2_cells {w:World} {B g n c k:Nat} {t:TypeId} {R:List (Int×Int)} {x:Int×Int} (h:Own2 w B t (.slice (some ⟨g,0,none⟩) n c) R) (hk:R[k]? =some x):w.cell? ⟨g,2*k,none⟩=some (.int .i64 x.1)/\w.cell? ⟨g,2*k+1,none⟩=some (.int .i64 x.2):=by
 have hc:=World.ownsRow.cells h (g:=g) rfl;have h1:=hc _ _ (fl2_at R k x hk).1;have h2:=hc _ _ (fl2_at R k x hk).2;rw[Addr.add_lit,Nat.zero_add] at h1 h2;exact⟨h1,h2⟩
theorem own2_some {w:World} {B:Nat} {v:Value} {t:TypeId} {R:List (Int×Int)} (h:Own2 w B t v R) (h0:R≠ []):∃g c,v=.slice (some ⟨g,0,none⟩) R.length c/\R.length<=c/\(∀j,w.frozen? ⟨g,j,none⟩=false)/\g<w.heap.size:=by
 rcases h.2 with ⟨hv,h1⟩|⟨g,cap,cur,hv,hg,hh,hn,_⟩
 ·exact absurd (List.eq_nil_of_length_eq_zero h1) h0
 ·exact⟨g,cap,hv,hn,fun j=>by simp[World.frozen?,hh],(Array.getElem?_eq_some_iff.1 hh).1⟩
theorem own2_none {w:World} {B:Nat} {v:Value} {t:TypeId} (h:Own2 w B t v []):∃A c,v=.slice A 0 c:=by
 rcases h.2 with ⟨hv,_⟩|⟨g,cap,cur,hv,_⟩
 ·exact⟨_,_,hv⟩
 ·exact⟨_,_,hv⟩
set_option maxHeartbeats 3200000 in
set_option maxRecDepth 100000 in
theorem runs_any (A:Option Addr) (n c:Nat) (l:List Int) (w:World) (hn:n<=1000) (hok:∀x∈l,0<=x/\x<=15) (hrd:Rd w w.heap.size 1 A n (l.map (Value.int .i64))) :
  Calls Tryz.prog 88 #[.slice A n c] w fun e w'=>∃v,e=.returned v/\Own2 w' w.heap.size 137 v (runs l)/\Below w.heap.size w w':=by
 have hln:l.length=n:=by simpa using hrd.len
 have HL:=Lib.hid hln;have HR:=Lib.hid hrd;have HO:=Lib.hid hok;clear hln hrd hok
 go_enter Tryz.func88, Tryz.ntmps88
 go_wp2_with fail
 go_step3
 go_wp2_with fail
 go_step3
 go_wp2_with fail
 go_loopg [3,9] n (fun kx s3 s9 wr=>∃(k:Nat),s9=.int .i64 (k:Int)/\k<=n/\n-k<=kx/\Aside (Own2 wr w.heap.size 137 s3 (runs (l.take k))/\Below w.heap.size w wr))
 case atStart=>exact⟨0,rfl,by omega,by omega,World.ownsRow_nil _ _ _ _,Below.refl _ _⟩
 case round =>
  obtain⟨k,rfl,hk,hkx,H⟩:=hrel;by_cases hlt:k<n
  ·obtain⟨ad,x,rfl,had,hx,hcell⟩:=(HR.out.below H.out.2).int1 hlt
   have hkl:k<l.length:=by have:=HL.out;omega
   rw[List.getElem?_eq_getElem hkl,Option.some.injEq] at hx;have hst:=runs_take l k hkl;rw[hx] at hst;have hgd:=runs_good (l.take k) (fun y hy=>HO.out y (List.mem_of_mem_take hy));have hfl:=congrArg List.length hgd.2;rw[List.length_take,Nat.min_eq_left (by omega)] at hfl;have HST:=Lib.hid hst;have HGD:=Lib.hid hgd;have hRl:=length_le_flat _ _ hgd.1;rw[hfl] at hRl;have HFL:=Lib.hid hfl;clear hst hx hgd hkl hfl;generalize runs (l.take k)=R at H HST HGD hRl HFL;by_cases h0:R=[]
   ·subst h0
    have hst2:=HST.out;rw[step_nil] at hst2;have HST2:=Lib.hid hst2;obtain⟨A3,c3,rfl⟩:=own2_none H.out.1;clear hst2 HST HGD HFL hRl;go_wp2_with (at_builtin;refine append2 (l:=[]) runPair H.out.1 (by simp) H.out.2.size ?_;intro A1 n1 c1 w3 hn1 hown1 hb1 hg1)
    have HN:Aside (Own2 w3 w.heap.size 137 (.slice A1 n1 c1) (runs (l.take (k+1)))/\Below w.heap.size w w3):=by
     rw[HST2.out];exact⟨hown1,H.out.2.trans hb1⟩
    clear hown1 hb1 hg1 H;go_roundg (n-(k+1))
    case measure=>omega
    case rel=>exact⟨k+1,by go_num,by omega,by omega,HN.out⟩
   ·obtain⟨g,c3,rfl,hc3,hfz,hg3⟩:=own2_some H.out.1 h0
    obtain⟨R',y,q,rfl⟩:∃R' y q,R=R'++[(y,q)]:=⟨R.dropLast,(R.getLast h0).1,(R.getLast h0).2,by rw[List.dropLast_concat_getLast h0]⟩
    have hq:=good_last _ _ _ _ HGD.out.1;have hq2:q<=(k:Int):=by
     have:=HFL.out;rw[flat_append,List.length_append] at this;have e:flat [(y,q)]=List.replicate q.toNat y:=by simp[flat]
     rw[e,List.length_replicate] at this;omega
    have hcs:=own2_cells (k:=R'.length) (x:=(y,q)) H.out.1 (by simp);have hc1:=hcs.1;have hc2:=hcs.2;have hfz1:=hfz (2*R'.length+1);have hst2:=HST.out;rw[step_snoc] at hst2;have HST2:=Lib.hid hst2;have HGE:=own2_ge H.out.1;have hlen:(R'++[(y,q)]).length=R'.length+1:=by simp
    have hlr:(R'++[(y,q)]).length<=1099511627776:=by omega
    have HLR:=Lib.hid hlr;obtain⟨m,hm⟩:∃m,m=R'.length:=⟨_,rfl⟩
    have HM:=Lib.hid hm;rw[hlen] at hRl hc3 ⊢;rw[<-hm] at hc1 hc2 hfz1 hRl hc3 ⊢;have HH:=H;rw[hlen,<-hm] at HH;have hput:=fun v=>own2_put HH.out.1 v
    rw[<-hm] at hput;have HPUT:=Lib.hid hput;clear hst2 HST HGD HFL h0 hcs hlen hput hm H hlr hfz;rw[show 2*m=m*2 by omega] at hc1;rw[show 2*m+1=m*2+1 by omega] at hc2 hfz1;have q1:IntKind.i64.wrap (q+1)=q+1:=by rw[IntKind.wrap_i64];omega
    by_cases hyx:y=x
    ·subst hyx
     go_wp2_with fail
     have HN:Aside (Own2 (wr.setCell ⟨g,m*2+1,none⟩ (.int .i64 (q+1))) w.heap.size 137 (.slice (some ⟨g,0,none⟩) (m+1) c3) (runs (l.take (k+1)))/\Below w.heap.size w (wr.setCell ⟨g,m*2+1,none⟩ (.int .i64 (q+1)))):=by
      rw[HST2.out];simp only[if_true];rw[show m*2+1=2*m+1 by omega];exact⟨HPUT.out _,HH.out.2.setCell (p:=⟨g,2*m+1,none⟩) HGE _⟩
     go_roundg (n-(k+1))
     case measure=>omega
     case rel=>exact⟨k+1,by go_num,by omega,by omega,HN.out⟩
    ·have b0:(y==x)=false:=by rw[beq_eq_false_iff_ne];exact hyx
     go_wp2_with (at_builtin;refine append2 (l:=R'++[(y,q)]) runPair HH.out.1 HLR.out HH.out.2.size ?_;intro A1 n1 c1 w3 hn1 hown1 hb1 hg1)
     have HN:Aside (Own2 w3 w.heap.size 137 (.slice A1 n1 c1) (runs (l.take (k+1)))/\Below w.heap.size w w3):=by
      rw[HST2.out,if_neg hyx];exact⟨hown1,HH.out.2.trans hb1⟩
     clear hown1 hb1 hg1 HH HPUT;go_roundg (n-(k+1))
     case measure=>omega
     case rel=>exact⟨k+1,by go_num,by omega,by omega,HN.out⟩
  ·have hE:=H.out
   have e:l.take k=l:=List.take_of_length_le (by have:=HL.out;omega);rw[e] at hE;have HE:Aside _:=hE;clear H hE e;go_wp2_with fail
   try rw[Exit.noGoto_ret]
   go_wp2_with fail
   go_ret
   exact⟨_,rfl,HE.out⟩
end Tb
end Go.Proofs.YtjligbmickfbdaaGreat
