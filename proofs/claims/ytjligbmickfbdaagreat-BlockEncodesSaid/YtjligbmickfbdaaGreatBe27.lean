/- slices.SortStableFunc at structs: two sorted ranges beside each other are merged. -/
import Derived.Test.YtjligbmickfbdaaGreatBe26
namespace Go.Proofs.YtjligbmickfbdaaGreat
open Go.Shelf Go.RowKit Go.Lib Go.Sort St
section
variable {P:Program} {k:Nat} {α:Type} [Inhabited α] {enc:α->List Value} {blk off:Nat} {w0:World} {d0:Array α}
set_option maxHeartbeats 8000000 in
set_option maxRecDepth 1000000 in
theorem symMerge_last (L:SwLays P k) (key:α->Int) (cf:α->α->Int) (hcf:∀x y,cf x y<0↔key x<key y) (g:Nat) (cb:Array Value) (eg:∀args w,(callFunc g args).run P w=.ok (.enter g args) w) (cap:Nat)
  (hC:CmpLays P g cb enc k cf blk off d0.size w0) (R:RowK enc k w0 blk off d0) (d:Array α) (w:World) (hs:d0.size=d.size) (S:SWK enc k w0 blk off d w) (hsz:d.size<4611686018427387904)
  (A X Z:List α) (y:α) (hd:d.toList=A++(X++y::Z)) (hX:Srt key X) (a m b:Nat) (ha:a=A.length) (hm:m=a+X.length) (hb:b=m+1) (hX2:2<=X.length) :
  Calls P 158 #[.slice (some ⟨blk,off,none⟩) d.size cap,.int .i64 (a:Int),.int .i64 (m:Int),.int .i64 (b:Int),.func (.func g) #[] cb] w fun e w' =>
   e=.returned (.tuple #[])/\ ∃d',SWK enc k w0 blk off d' w'/\d'.toList=A++(mrg key X [y]++Z):=by
 have mixed:=L.mixed;have tu:=L.tu;have au:=L.au;have zu:=L.zu;have vu:=L.vu;have ti:=L.ti;have ai:=L.ai;have zi:=L.zi;have vi:=L.vi;have tb:=L.tb;have ab:=L.ab;have zb:=L.zb;have vb:=L.vb;have tn:=L.tn;have an:=L.an;have zn:=L.zn;have vn:=L.vn;have ts:=L.ts;have aS:=L.aS;have zs:=L.zs;have vs:=L.vs;have tf:=L.tf;have af:=L.af;have zf:=L.zf;have vf:=L.vf;have aE:=L.aE;have zE:=L.zE;have us:=run_underlying L.ts;have hdl:d.size=A.length+X.length+1+Z.length:=by rw[<-Array.length_toList,hd];simp;omega
 have hy:d[m]! =y:=arr_at (A:=A++X) (B:=Z) (by rw[hd];simp) (by simp;omega);have hxt:∀t,a<=t->t<m->X[t-a]? =some d[t]! :=by
  intro t h1 h2;have h3:d[t]? =X[t-a]? :=by
   rw[<-Array.getElem?_toList,hd,List.getElem?_append_right (by omega),List.getElem?_append_left (by omega),ha]
  rw[<-h3,Array.getElem?_eq_getElem (show t<d.size by omega),getElem!_pos d t (by omega)]
 have S0:Aside (SWK enc k w0 blk off d w):=S;have HD:Aside (d.toList=A++(X++y::Z)):=hd;have HA:Aside (a=A.length/\m=a+X.length/\d.size=A.length+X.length+1+Z.length):=⟨ha,hm,hdl⟩
 have HC:Aside _:=hC;have HXT:Aside _:=hxt;have HY:Aside (d[m]! =y):=hy;have HF:Aside _:=hcf;have HL:Aside (SwLays P k):=L;have HB:Aside (b=m+1):=hb;have hm1:((m:Int)-(a:Int)==1)=false:=by rw[beq_eq_false_iff_ne];omega
 have hm2:(b:Int)-(m:Int)=1:=by omega
 have bm:b<=d.size:=by omega
 have mb:m<b:=by omega
 have am:a<=m:=by omega
 clear S hd ha hb hdl hC hxt hy hcf L hm;go_enter HL.out.sym,Tryz.ntmps158
 go_wp2_with fail
 go_loopg [14,15] (m-a) (fun kx s10 s11 wr=>∃(i j:Nat),s10=.int .i64 (i:Int)/\s11=.int .i64 (j:Int)/\a<=i/\i<=j/\j<=m/\j-i<=kx /\
  Aside (SWK enc k w0 blk off d wr/\(∀t,a<=t->t<i-> ¬ key y<key d[t]!)/\(∀t,j<=t->t<m->key y<key d[t]!)))
 case atStart=>exact⟨a,m,rfl,rfl,by omega,by omega,by omega,by omega,S0.out,fun t h1 h2=>by omega,fun t h1 h2=>by omega⟩
 case round =>
  clear S0;obtain⟨i,j,rfl,rfl,hi,hij,hj,hkx,H⟩:=hrel;by_cases hlt:(i:Int)<(j:Int)
  ·go_wp2_with fail
   obtain⟨h,he⟩:∃h,h=(i+j)/2:=⟨_,rfl⟩
   have hh:((i:Int)+(j:Int))/2=(h:Int):=by omega
   have h1:i<=h:=by omega
   have h2:h<j:=by omega
   simp only[hh];clear hh he;have ph:(0:Int)<=(h:Int):=by omega
   have pa:(0:Int)<=(m:Int):=by omega
   have bh:(h:Int)<(d.size:Int):=by omega
   have ba:(m:Int)<(d.size:Int):=by omega
   have th:(h:Int).toNat=h:=by omega
   have ta:(m:Int).toNat=m:=by omega
   have lh:=fun n' os'=>H.out.1.ld R hs.symm P h (by omega) n' os'
   have la:=fun n' os'=>H.out.1.ld R hs.symm P m (by omega) n' os'
   have hcg:=fun n' os'=>H.out.1.cmp HC.out hs.symm d[m]! d[h]! n' os'
   have HQ:Aside (∀n' os',SWK enc k w0 blk off d (grow (wr.drewN n') os')):=fun n' os'=>H.out.1.grown n' os'
   obtain⟨xh,hxh⟩:∃y,y=d[h]! :=⟨_,rfl⟩
   obtain⟨xa,hxa⟩:∃y,y=d[m]! :=⟨_,rfl⟩
   rw[<-hxh] at lh hcg;rw[<-hxa] at la hcg;have HXH:Aside (xh=d[h]! /\xa=y):=⟨hxh,hxa.trans HY.out⟩
   clear hxh hxa;have hord:∀s t,a<=s->s<=t->t<m->key d[s]! <=key d[t]! :=by
    intro s t q1 q2 q3;have e1:=HXT.out s q1 (by omega);have e2:=HXT.out t (by omega) q3;rcases Nat.eq_or_lt_of_le q2 with rfl|q4
    ·exact Int.le_refl _
    ·obtain⟨r1,s1⟩:=List.getElem?_eq_some_iff.1 e1
     obtain⟨r2,s2⟩:=List.getElem?_eq_some_iff.1 e2;have:=List.pairwise_iff_getElem.1 hX _ _ r1 r2 (by omega)
     rwa [s1,s2] at this
   have HO:Aside _:=hord;clear hord;by_cases hlv:cf xa xh<0
   ·go_wp2_with fail
    go_quiet_grown (first|(go_at_fn g;refine Calls.grown_of (hcg _ _)))
    clear lh la hcg;go_wp2
    go_roundg (h-i)
    case measure=>omega
    case rel =>
     refine⟨i,h,rfl,rfl,by omega,by omega,by omega,by omega,HQ.out _ _,H.out.2.1,fun t q1 q2=>?_⟩;obtain⟨e1,e2⟩:=HXH.out;have h3:=(HF.out _ _).1 hlv;rw[e1,e2] at h3;have:=HO.out h t (by omega) q1 q2;omega
   ·have hdz:(!decide (cf xa xh<0))=true:=by rw[decide_eq_false hlv];rfl
    go_wp2_with fail
    go_quiet_grown (first|(go_at_fn g;refine Calls.grown_of (hcg _ _)))
    clear lh la hcg;go_wp2
    go_roundg (j-(h+1))
    case measure=>omega
    case rel =>
     refine⟨h+1,j,by go_num,rfl,by omega,by omega,by omega,by omega,HQ.out _ _,fun t q1 q2=>?_,H.out.2.2⟩;obtain⟨e1,e2⟩:=HXH.out;have h3: ¬ key xa<key xh:=fun q=>by have:=(HF.out _ _).2 q;omega
     rw[e1,e2] at h3;have:=HO.out t h q1 (by omega) (by omega);omega
  ·have hij':j=i:=by omega
   subst hij';have hres:mrg key X [y]=X.take (j-a)++y::X.drop (j-a):=by
    have:=mrg_one key (X.take (j-a)) (X.drop (j-a)) y ?_ ?_
    ·rwa [List.take_append_drop] at this
    ·intro s hs'
     obtain⟨t,ht⟩:=List.mem_iff_getElem?.1 hs';rw[List.getElem?_take] at ht;split at ht
     ·rename_i hl
      have h1:=HXT.out (a+t) (by omega) (by omega);rw[show a+t-a=t by omega,ht] at h1;rw[Option.some.inj h1];have:=H.out.2.1 (a+t) (by omega) (by omega);omega
     ·cases ht
    ·intro s hs'
     obtain⟨t,ht⟩:=List.mem_iff_getElem?.1 hs';rw[List.getElem?_drop] at ht;have hl:j-a+t<X.length:=(List.getElem?_eq_some_iff.1 ht).1;have h1:=HXT.out (j+t) (by omega) (by have:=HA.out;omega);rw[show j+t-a=j-a+t by omega,ht] at h1;rw[Option.some.inj h1];exact H.out.2.2 (j+t) (by omega) (by have:=HA.out;omega)
   have HR:=Lib.hid hres;have S1:Aside _:=H.out.1;clear hres H;go_wp2_with fail
   go_loopg [17] (m-j) (fun kx s13 wr=>∃(i:Nat) (dk:Array α),s13=.int .i64 (i:Int)/\j<=i/\i<=m/\i-j<=kx/\dk.size=d.size/\Aside (SWK enc k w0 blk off dk wr)/\Hid (dk.toList=A++(X.take (i-a)++y::(X.drop (i-a)++Z))))
   case atStart=>exact⟨m,d,rfl,by omega,by omega,by omega,rfl,S1,(by show _=_;obtain⟨_,e,_⟩:=HA.out;rw[HD.out,List.take_of_length_le (by omega),List.drop_of_length_le (by omega)];simp)⟩
   case round =>
    clear S1;obtain⟨i,dk,rfl,hai,hij,hkx,hds,S1,heq⟩:=hrel;by_cases hlt:(j:Int)<(i:Int)
    ·obtain⟨i,rfl⟩:∃i',i=i'+1:=⟨i-1,by omega⟩
     obtain⟨u,hu⟩:∃u,X[i-a]? =some u:=⟨X[i-a]'(by have:=HA.out;omega),List.getElem?_eq_getElem _⟩
     have HU:=Lib.hid hu;clear hu;obtain⟨ib,hib⟩:∃ib,ib=i+1:=⟨_,rfl⟩
     have S2:Aside (SWK enc k w0 blk off (swp dk ib i) _):=S1.out.swapped R ib i (by omega) (by omega);have la:=S1.out.ld1 R (by omega) P ib (by omega);have lb:=S1.out.ld1 R (by omega) P i (by omega);have sa:=S1.out.st1 R (by omega) P ib (by omega) dk[i]!;have sb:=S1.out.st2 R (by omega) P ib i (by omega) (by omega) dk[i]! dk[ib]!;have na:(enc dk[ib]!).length=k:=R.hk _;have nb:(enc dk[i]!).length=k:=R.hk _;generalize enc dk[ib]! =cA at S2 la sb na;generalize enc dk[i]! =cB at S2 lb sa sb nb;have hlt':(j:Int)<(ib:Int):=by omega
     have wb:IntKind.i64.wrap ((ib:Int)-1)=(i:Int):=by rw[IntKind.wrap_i64];omega
     have pa:(0:Int)<=(ib:Int):=by omega
     have pb:(0:Int)<=(i:Int):=by omega
     have ba:(ib:Int)<(d.size:Int):=by omega
     have bb:(i:Int)<(d.size:Int):=by omega
     have ta:(ib:Int).toNat=ib:=by omega
     have tb:(i:Int).toNat=i:=by omega
     rw[<-hib] at heq hkx hlt hai hij ⊢;have HI:Aside (ib=i+1):=hib;clear S1 hib hlt;go_wp2_with fail
     go_big_region_o
     clear la lb sa sb;go_wp2
     go_roundg (i-j)
     case measure=>have:=HI.out;omega
     case rel =>
      refine⟨i,_,by first|rfl|go_num|rw[HI.out],by have:=HI.out;omega,by have:=HI.out;omega,by omega,by rw[size_swp];exact hds,S2,?_⟩;have hib:=HI.out;subst hib;obtain⟨ea,eb,ed⟩:=HA.out;have h1:=drop_at X (i-a) u HU.out;have h2:X.take (i+1-a)=X.take (i-a)++[u]:=by rw[show i+1-a=i-a+1 by omega,List.take_add_one,HU.out];rfl
      show _=_
      have:=swp_list' (d:=dk) (A:=A++X.take (i-a)) (B:=[]) (C:=X.drop (i+1-a)++Z) (x:=u) (y:=y) (i:=i) (j:=i+1) (by rw[heq.out,h2];simp) (by simp;omega) (by simp;omega);rw[this,h1,show i+1-a=i-a+1 by omega];simp
    ·go_wp2
     refine bodyPost_ret (results_none rfl _ _ _) rfl ?_;have e:i=j:=by omega
     refine⟨rfl,dk,S1.out,?_⟩;rw[heq.out,HR.out,e];simp
end
end Go.Proofs.YtjligbmickfbdaaGreat
