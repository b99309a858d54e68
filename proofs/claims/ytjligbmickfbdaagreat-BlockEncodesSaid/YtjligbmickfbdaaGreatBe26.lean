/- slices.SortStableFunc at structs: two ranges beside each other change places. slices.SortStableFunc at structs: two sorted ranges beside each other are merged. -/
import Derived.Test.YtjligbmickfbdaaGreatBe25
namespace Go.Proofs.YtjligbmickfbdaaGreat
open Go.Shelf Go.RowKit Go.Lib Go.Sort St
section
variable {P:Program} {k:Nat} {α:Type} [Inhabited α] {enc:α->List Value} {blk off:Nat} {w0:World} {d0:Array α}
set_option maxHeartbeats 4000000 in
set_option maxRecDepth 1000000 in
theorem rotate_is (L:SwLays P k) (fv:Value) (cap:Nat) (d:Array α) (w:World) (R:RowK enc k w0 blk off d0) (hs:d0.size=d.size) (S:SWK enc k w0 blk off d w) (hsz:d.size<4611686018427387904)
  (A U V Z:List α) (hd:d.toList=A++(U++(V++Z))) (a m b:Nat) (ha:a=A.length) (hm:m=A.length+U.length) (hb:b=A.length+U.length+V.length) (hU:0<U.length) (hV:0<V.length) :
  Calls P 160 #[.slice (some ⟨blk,off,none⟩) d.size cap,.int .i64 (a:Int),.int .i64 (m:Int),.int .i64 (b:Int),fv] w fun e w' =>
   e=.returned (.tuple #[])/\ ∃d',SWK enc k w0 blk off d' w'/\d'.toList=A++(V++(U++Z)):=by
 have mixed:=L.mixed;have tu:=L.tu;have au:=L.au;have zu:=L.zu;have vu:=L.vu;have ti:=L.ti;have ai:=L.ai;have zi:=L.zi;have vi:=L.vi;have tb:=L.tb;have ab:=L.ab;have zb:=L.zb;have vb:=L.vb;have tn:=L.tn;have an:=L.an;have zn:=L.zn;have vn:=L.vn;have ts:=L.ts;have aS:=L.aS;have zs:=L.zs;have vs:=L.vs;have tf:=L.tf;have af:=L.af;have zf:=L.zf;have vf:=L.vf;have aE:=L.aE;have zE:=L.zE;have us:=run_underlying L.ts;have eS:∀args w,(callFunc 161 args).run P w=.ok (.enter 161 args) w:=enters_of L.swap (by kernel_rfl) rfl;have hdl:d.size=A.length+U.length+V.length+Z.length:=by rw[<-Array.length_toList,hd];simp;omega
 have S0:Aside (SWK enc k w0 blk off d w/\d.toList=A++(U++(V++Z))):=⟨S,hd⟩
 have HA:Aside (a=A.length/\m=A.length+U.length/\b=A.length+U.length+V.length/\0<U.length/\0<V.length):=⟨ha,hm,hb,hU,hV⟩
 have HL:Aside (SwLays P k):=L;have b1:a<=m:=by omega
 have b2:m<=b:=by omega
 have b3:b<=d.size:=by omega
 clear S hd ha hm hb hU hV hdl L;go_enter HL.out.rot,Tryz.ntmps160
 go_wp2
 go_loopg [10,11] (b-a) (fun kx s10 s11 wr=>∃(i j:Nat) (dk:Array α),s10=.int .i64 (i:Int)/\s11=.int .i64 (j:Int)/\0<i/\0<j/\i+j<=kx/\i<=m/\m+j<=b/\dk.size=d.size /\
  Aside (SWK enc k w0 blk off dk wr/\ ∃A' U' V' Z',A'.length=m-i/\U'.length=i/\V'.length=j/\dk.toList=A'++(U'++(V'++Z'))/\A'++(V'++(U'++Z'))=A++(V++(U++Z))))
 case atStart =>
  obtain⟨ea,em,eb,hU,hV⟩:=HA.out;exact⟨m-a,b-m,d,by go_num,by go_num,by omega,by omega,by omega,by omega,by omega,rfl,⟨S0.out.1,A,U,V,Z,by omega,by omega,by omega,S0.out.2,rfl⟩⟩
 case round =>
  clear S0;obtain⟨i,j,dk,rfl,rfl,hi,hj,hkx,him,hjb,hds,H⟩:=hrel;by_cases hne:(i:Int)=(j:Int)
  ·have hij:i=j:=by omega
   subst hij;obtain⟨S1,A',U',V',Z',lA,lU,lV,e1,e2⟩:=H.out;have hc:=swapRange_is HL.out fv cap dk wr R (by omega) S1 (by omega) A' U' [] V' Z' (by rw[e1];simp) (by omega) (m-i) m i (by omega) (by simp;omega) (by omega);rw[hds,show((m-i:Nat):Int)=(m:Int)-(i:Int) by omega] at hc;have hfin:∀d':Array α,d'.toList=A'++(V'++([]++(U'++Z')))->d'.toList=A++(V++(U++Z)):=by intro d' h;rw[h,<-e2];simp
   have HF:=Lib.hid hfin;clear hfin S1 e1 e2 lA lU lV H;go_wp2_with (go_at_fn 161;refine hc.mono ?_;rintro e w2 ⟨rfl,d2,S2,h2⟩)
   go_end0
   exact⟨rfl,d2,S2,HF.out d2 h2⟩
  ·by_cases hgt:(j:Int)<(i:Int)
   ·obtain⟨S1,A',U',V',Z',lA,lU,lV,e1,e2⟩:=H.out
    have hc:=swapRange_is HL.out fv cap dk wr R (by omega) S1 (by omega) A' (U'.take j) (U'.drop j) V' Z' (by rw[e1,<-List.append_assoc (U'.take j),List.take_append_drop]) (by simp;omega) (m-i) m j (by omega) (by simp;omega) (by simp;omega);rw[hds,show((m-i:Nat):Int)=(m:Int)-(i:Int) by omega] at hc;have hfin:∀d':Array α,d'.toList=A'++(V'++(U'.drop j++(U'.take j++Z')))->d'.size=d.size/\ ∃A' U' V' Z',A'.length=m-(i-j)/\U'.length=i-j/\V'.length=j/\d'.toList=A'++(U'++(V'++Z'))/\A'++(V'++(U'++Z'))=A++(V++(U++Z)):=by
     intro d' h;refine⟨?_,A'++V',U'.drop j,U'.take j,Z',by simp;omega,by simp;omega,by simp;omega,by rw[h];simp,?_⟩
     ·rw[<-hds,<-Array.length_toList,<-Array.length_toList,h,e1];simp;omega
     ·rw[<-e2,<-List.append_assoc (U'.take j),List.take_append_drop];simp
    have HF:=Lib.hid hfin;clear hfin S1 e1 e2 lA lU lV H;go_wp2_with (go_at_fn 161;refine hc.mono ?_;rintro e w2 ⟨rfl,d2,S2,h2⟩)
    have h2':=HF.out d2 h2;clear h2 hc HF;have S3:Aside _:=And.intro S2 h2'.2;have h2s:=h2'.1;clear S2 h2';go_wp2
    go_roundg (i-j+j)
    case measure=>omega
    case rel=>exact⟨i-j,j,d2,by go_num,rfl,by omega,by omega,by omega,by omega,by omega,h2s,S3⟩
   ·obtain⟨S1,A',U',V',Z',lA,lU,lV,e1,e2⟩:=H.out
    have hc:=swapRange_is HL.out fv cap dk wr R (by omega) S1 (by omega) A' U' (V'.take (j-i)) (V'.drop (j-i)) Z' (by rw[e1,<-List.append_assoc (V'.take (j-i)),List.take_append_drop]) (by simp;omega) (m-i) (m+j-i) i (by omega) (by simp;omega) (by omega);rw[hds,show((m-i:Nat):Int)=(m:Int)-(i:Int) by omega,show((m+j-i:Nat):Int)=(m:Int)+(j:Int)-(i:Int) by omega] at hc;have hfin:∀d':Array α,d'.toList=A'++(V'.drop (j-i)++(V'.take (j-i)++(U'++Z')))->d'.size=d.size/\ ∃A' U' V' Z',A'.length=m-i/\U'.length=i/\V'.length=j-i/\d'.toList=A'++(U'++(V'++Z'))/\A'++(V'++(U'++Z'))=A++(V++(U++Z)):=by
     intro d' h;refine⟨?_,A',V'.drop (j-i),V'.take (j-i),U'++Z',by omega,by simp;omega,by simp;omega,by rw[h],?_⟩
     ·rw[<-hds,<-Array.length_toList,<-Array.length_toList,h,e1];simp;omega
     ·rw[<-e2,<-List.append_assoc (V'.take (j-i)),List.take_append_drop]
    have HF:=Lib.hid hfin;clear hfin S1 e1 e2 lA lU lV H;go_wp2_with (go_at_fn 161;refine hc.mono ?_;rintro e w2 ⟨rfl,d2,S2,h2⟩)
    have h2':=HF.out d2 h2;clear h2 hc HF;have S3:Aside _:=And.intro S2 h2'.2;have h2s:=h2'.1;clear S2 h2';go_wp2
    go_roundg (i+(j-i))
    case measure=>omega
    case rel=>exact⟨i,j-i,d2,rfl,by go_num,by omega,by omega,by omega,by omega,by omega,h2s,S3⟩
end
end Go.Proofs.YtjligbmickfbdaaGreat
namespace Go.Proofs.YtjligbmickfbdaaGreat
open Go.Shelf Go.RowKit Go.Lib Go.Sort St
section
variable {P:Program} {k:Nat} {α:Type} [Inhabited α] {enc:α->List Value} {blk off:Nat} {w0:World} {d0:Array α}
set_option maxHeartbeats 8000000 in
set_option maxRecDepth 1000000 in
theorem symMerge_one (L:SwLays P k) (key:α->Int) (cf:α->α->Int) (hcf:∀x y,cf x y<0↔key x<key y) (g:Nat) (cb:Array Value) (eg:∀args w,(callFunc g args).run P w=.ok (.enter g args) w) (cap:Nat)
  (hC:CmpLays P g cb enc k cf blk off d0.size w0) (R:RowK enc k w0 blk off d0) (d:Array α) (w:World) (hs:d0.size=d.size) (S:SWK enc k w0 blk off d w) (hsz:d.size<4611686018427387904)
  (A Y Z:List α) (x:α) (hd:d.toList=A++(x::(Y++Z))) (hY:Srt key Y) (a m b:Nat) (ha:a=A.length) (hm:m=a+1) (hb:b=m+Y.length) :
  Calls P 158 #[.slice (some ⟨blk,off,none⟩) d.size cap,.int .i64 (a:Int),.int .i64 (m:Int),.int .i64 (b:Int),.func (.func g) #[] cb] w fun e w' =>
   e=.returned (.tuple #[])/\ ∃d',SWK enc k w0 blk off d' w'/\d'.toList=A++(mrg key [x] Y++Z):=by
 have mixed:=L.mixed;have tu:=L.tu;have au:=L.au;have zu:=L.zu;have vu:=L.vu;have ti:=L.ti;have ai:=L.ai;have zi:=L.zi;have vi:=L.vi;have tb:=L.tb;have ab:=L.ab;have zb:=L.zb;have vb:=L.vb;have tn:=L.tn;have an:=L.an;have zn:=L.zn;have vn:=L.vn;have ts:=L.ts;have aS:=L.aS;have zs:=L.zs;have vs:=L.vs;have tf:=L.tf;have af:=L.af;have zf:=L.zf;have vf:=L.vf;have aE:=L.aE;have zE:=L.zE;have us:=run_underlying L.ts;have hdl:d.size=A.length+1+Y.length+Z.length:=by rw[<-Array.length_toList,hd];simp;omega
 have hx:d[a]! =x:=arr_at hd ha;have hyt:∀t,m<=t->t<b->Y[t-m]? =some d[t]! :=by
  intro t h1 h2;have h3:d[t]? =Y[t-m]? :=by
   rw[<-Array.getElem?_toList,hd,List.getElem?_append_right (by omega),show t-A.length=(t-m)+1 by omega,List.getElem?_cons_succ,List.getElem?_append_left (by omega)]
  rw[<-h3,Array.getElem?_eq_getElem (show t<d.size by omega),getElem!_pos d t (by omega)]
 have S0:Aside (SWK enc k w0 blk off d w):=S;have HD:Aside (d.toList=A++(x::(Y++Z))):=hd;have HA:Aside (a=A.length/\b=m+Y.length/\d.size=A.length+1+Y.length+Z.length):=⟨ha,hb,hdl⟩
 have HC:Aside _:=hC;have HYT:Aside _:=hyt;have HX:Aside (d[a]! =x):=hx;have HF:Aside _:=hcf;have HL:Aside (SwLays P k):=L;have bm:b<=d.size:=by omega
 have mb:m<=b:=by omega
 have am:a<d.size:=by omega
 have HM:Aside (m=a+1):=hm;have hm1:(m:Int)-(a:Int)=1:=by omega
 have am1:a<m:=by omega
 clear S hd ha hb hdl hC hyt hx hcf L hm;go_enter HL.out.sym,Tryz.ntmps158
 go_wp2_with fail
 go_loopg [10,11] (b-m) (fun kx s10 s11 wr=>∃(i j:Nat),s10=.int .i64 (i:Int)/\s11=.int .i64 (j:Int)/\m<=i/\i<=j/\j<=b/\j-i<=kx /\
  Aside (SWK enc k w0 blk off d wr/\(∀t,m<=t->t<i->key d[t]! <key x)/\(∀t,j<=t->t<b-> ¬ key d[t]! <key x)))
 case atStart=>exact⟨m,b,rfl,rfl,by omega,by omega,by omega,by omega,S0.out,fun t h1 h2=>by omega,fun t h1 h2=>by omega⟩
 case round =>
  clear S0;obtain⟨i,j,rfl,rfl,hi,hij,hj,hkx,H⟩:=hrel;by_cases hlt:(i:Int)<(j:Int)
  ·go_wp2_with fail
   obtain⟨h,he⟩:∃h,h=(i+j)/2:=⟨_,rfl⟩
   have hh:((i:Int)+(j:Int))/2=(h:Int):=by omega
   have h1:i<=h:=by omega
   have h2:h<j:=by omega
   simp only[hh];clear hh he;have ph:(0:Int)<=(h:Int):=by omega
   have pa:(0:Int)<=(a:Int):=by omega
   have bh:(h:Int)<(d.size:Int):=by omega
   have ba:(a:Int)<(d.size:Int):=by omega
   have th:(h:Int).toNat=h:=by omega
   have ta:(a:Int).toNat=a:=by omega
   have lh:=fun n' os'=>H.out.1.ld R hs.symm P h (by omega) n' os'
   have la:=fun n' os'=>H.out.1.ld R hs.symm P a (by omega) n' os'
   have hcg:=fun n' os'=>H.out.1.cmp HC.out hs.symm d[h]! d[a]! n' os'
   have HQ:Aside (∀n' os',SWK enc k w0 blk off d (grow (wr.drewN n') os')):=fun n' os'=>H.out.1.grown n' os'
   obtain⟨xh,hxh⟩:∃y,y=d[h]! :=⟨_,rfl⟩
   obtain⟨xa,hxa⟩:∃y,y=d[a]! :=⟨_,rfl⟩
   rw[<-hxh] at lh hcg;rw[<-hxa] at la hcg;have HXH:Aside (xh=d[h]! /\xa=x):=⟨hxh,hxa.trans HX.out⟩
   clear hxh hxa;have hord:∀s t,m<=s->s<=t->t<b->key d[s]! <=key d[t]! :=by
    intro s t q1 q2 q3;have e1:=HYT.out s q1 (by omega);have e2:=HYT.out t (by omega) q3;rcases Nat.eq_or_lt_of_le q2 with rfl|q4
    ·exact Int.le_refl _
    ·obtain⟨r1,s1⟩:=List.getElem?_eq_some_iff.1 e1
     obtain⟨r2,s2⟩:=List.getElem?_eq_some_iff.1 e2;have:=List.pairwise_iff_getElem.1 hY _ _ r1 r2 (by omega)
     rwa [s1,s2] at this
   have HO:Aside _:=hord;clear hord;by_cases hlv:cf xh xa<0
   ·go_wp2_with fail
    go_quiet_grown (first|(go_at_fn g;refine Calls.grown_of (hcg _ _)))
    clear lh la hcg;go_wp2
    go_roundg (j-(h+1))
    case measure=>omega
    case rel =>
     refine⟨h+1,j,by go_num,rfl,by omega,by omega,by omega,by omega,HQ.out _ _,fun t q1 q2=>?_,H.out.2.2⟩;obtain⟨e1,e2⟩:=HXH.out;have h3:=(HF.out _ _).1 hlv;rw[e1,e2] at h3;have:=HO.out t h q1 (by omega) (by omega);omega
   ·go_wp2_with fail
    go_quiet_grown (first|(go_at_fn g;refine Calls.grown_of (hcg _ _)))
    clear lh la hcg;go_wp2
    go_roundg (h-i)
    case measure=>omega
    case rel =>
     refine⟨i,h,rfl,rfl,by omega,by omega,by omega,by omega,HQ.out _ _,H.out.2.1,fun t q1 q2=>?_⟩;obtain⟨e1,e2⟩:=HXH.out;have h3: ¬ key xh<key xa:=fun q=>by have:=(HF.out _ _).2 q;omega
     rw[e1,e2] at h3;have:=HO.out h t (by omega) q1 q2;omega
  ·have hij':j=i:=by omega
   subst hij';have hres:mrg key [x] Y=Y.take (j-m)++x::Y.drop (j-m):=by
    have:=one_mrg key (Y.take (j-m)) (Y.drop (j-m)) x ?_ ?_
    ·rwa [List.take_append_drop] at this
    ·intro s hs'
     obtain⟨t,ht⟩:=List.mem_iff_getElem?.1 hs';rw[List.getElem?_take] at ht;split at ht
     ·rename_i hl
      have h1:=HYT.out (m+t) (by omega) (by omega);rw[show m+t-m=t by omega,ht] at h1;rw[Option.some.inj h1];exact H.out.2.1 _ (by omega) (by omega)
     ·cases ht
    ·intro s hs'
     obtain⟨t,ht⟩:=List.mem_iff_getElem?.1 hs';rw[List.getElem?_drop] at ht;have hl:j-m+t<Y.length:=(List.getElem?_eq_some_iff.1 ht).1;have h1:=HYT.out (j+t) (by omega) (by have:=HA.out;omega);rw[show j+t-m=j-m+t by omega,ht] at h1;rw[Option.some.inj h1];have:=H.out.2.2 (j+t) (by omega) (by have:=HA.out;omega);omega
   have HR:=Lib.hid hres;have S1:Aside _:=H.out.1;clear hres H;go_wp2_with fail
   go_loopg [13] (j-m) (fun kx s13 wr=>∃(i:Nat) (dk:Array α),s13=.int .i64 (i:Int)/\a<=i/\i+1<=j/\j-(i+1)<=kx/\dk.size=d.size/\Aside (SWK enc k w0 blk off dk wr)/\Hid (dk.toList=A++(Y.take (i-a)++x::(Y.drop (i-a)++Z))))
   case atStart=>exact⟨a,d,rfl,by omega,by omega,by omega,rfl,S1,(by show _=_;rw[HD.out];simp)⟩
   case round =>
    clear S1;obtain⟨i,dk,rfl,hai,hij,hkx,hds,S1,heq⟩:=hrel;by_cases hlt:(i:Int)<(j:Int)-1
    ·go_wp2_with fail
     obtain⟨y,hy⟩:∃y,Y[i-a]? =some y:=⟨Y[i-a]'(by have:=HA.out;omega),List.getElem?_eq_getElem _⟩
     have HY:=Lib.hid hy;clear hy;obtain⟨ia,hia⟩:∃ia,ia=i:=⟨_,rfl⟩
     obtain⟨ib,hib⟩:∃ib,ib=i+1:=⟨_,rfl⟩
     have wb:IntKind.i64.wrap ((i:Int)+1)=(ib:Int):=by rw[IntKind.wrap_i64];omega
     have pa:(0:Int)<=(i:Int):=by omega
     have pb:(0:Int)<=(ib:Int):=by omega
     have ba:(i:Int)<(d.size:Int):=by omega
     have bb:(ib:Int)<(d.size:Int):=by omega
     have ta:(i:Int).toNat=i:=by omega
     have tb:(ib:Int).toNat=ib:=by omega
     have S2:Aside (SWK enc k w0 blk off (swp dk i ib) _):=S1.out.swapped R i ib (by omega) (by omega);have la:=S1.out.ld1 R (by omega) P i (by omega);have lb:=S1.out.ld1 R (by omega) P ib (by omega);have sa:=S1.out.st1 R (by omega) P i (by omega) dk[ib]!;have sb:=S1.out.st2 R (by omega) P i ib (by omega) (by omega) dk[ib]! dk[i]!;have na:(enc dk[i]!).length=k:=R.hk _;have nb:(enc dk[ib]!).length=k:=R.hk _;generalize enc dk[i]! =cA at S2 la sb na;generalize enc dk[ib]! =cB at S2 lb sa sb nb;have HI:Aside (ib=i+1):=hib;clear S1 hia hib;go_wp2_with fail
     go_big_region_o
     clear la lb sa sb;go_wp2
     go_roundg (j-(i+2))
     case measure=>omega
     case rel =>
      refine⟨i+1,_,by first|rfl|go_num|rw[HI.out],by omega,by omega,by omega,by rw[size_swp];exact hds,S2,?_⟩;have hib:=HI.out;subst hib;obtain⟨ea,eb,ed⟩:=HA.out;have h1:=drop_at Y (i-a) y HY.out;have h2:Y.take (i-a+1)=Y.take (i-a)++[y]:=by rw[List.take_add_one,HY.out];rfl
      show _=_
      have:=swp_list (d:=dk) (A:=A++Y.take (i-a)) (B:=[]) (C:=Y.drop (i-a+1)++Z) (x:=x) (y:=y) (i:=i) (j:=i+1) (by rw[heq.out,h1];simp) (by simp;omega) (by simp;omega);rw[this,show i+1-a=i-a+1 by omega,h2];simp
    ·go_wp2
     refine bodyPost_ret (results_none rfl _ _ _) rfl ?_;have e:i-a=j-m:=by have:=HM.out;omega
     refine⟨rfl,dk,S1.out,?_⟩;rw[heq.out,HR.out,e];simp
end
end Go.Proofs.YtjligbmickfbdaaGreat
