/- slices.SortStableFunc at structs: two sorted ranges beside each other are merged. -/
import Derived.Test.YtjligbmickfbdaaGreatBe27
import Derived.Deep.Cut
namespace Go.Proofs.YtjligbmickfbdaaGreat
open Go.Shelf Go.RowKit Go.Lib Go.Sort St
section
variable {P:Program} {k:Nat} {α:Type} [Inhabited α] {enc:α->List Value} {blk off:Nat} {w0:World} {d0:Array α}
theorem ord_of {d:Array α} {A X Z:List α} {key:α->Int} (hd:d.toList=A++(X++Z)) (hX:Srt key X) {a m:Nat} (ha:a=A.length) (hm:m=a+X.length):∀s t,a<=s->s<=t->t<m->key d[s]! <=key d[t]! :=by
 have hdl:d.size=A.length+X.length+Z.length:=by rw[<-Array.length_toList,hd];simp;omega
 have hxt:∀t,a<=t->t<m->X[t-a]? =some d[t]! :=by
  intro t h1 h2;have h3:d[t]? =X[t-a]? :=by
   rw[<-Array.getElem?_toList,hd,List.getElem?_append_right (by omega),List.getElem?_append_left (by omega),ha]
  rw[<-h3,Array.getElem?_eq_getElem (show t<d.size by omega),getElem!_pos d t (by omega)]
 intro s t q1 q2 q3;have e1:=hxt s q1 (by omega);have e2:=hxt t (by omega) q3;rcases Nat.eq_or_lt_of_le q2 with rfl|q4
 ·exact Int.le_refl _
 ·obtain⟨r1,s1⟩:=List.getElem?_eq_some_iff.1 e1
  obtain⟨r2,s2⟩:=List.getElem?_eq_some_iff.1 e2;have:=List.pairwise_iff_getElem.1 hX _ _ r1 r2 (by omega)
  rwa [s1,s2] at this
theorem mem_at {d:Array α} {A X Z:List α} (hd:d.toList=A++(X++Z)) {a:Nat} (ha:a=A.length) (lo hi:Nat) (hhi:hi<=X.length) {z:α} (hz:z∈(X.take hi).drop lo):∃t,a+lo<=t/\t<a+hi/\d[t]! =z:=by
 have hdl:d.size=A.length+X.length+Z.length:=by rw[<-Array.length_toList,hd];simp;omega
 obtain⟨t,ht⟩:=List.mem_iff_getElem?.1 hz;rw[List.getElem?_drop,List.getElem?_take] at ht;split at ht
 ·rename_i hl
  refine⟨a+(lo+t),by omega,by omega,?_⟩;have h3:d[a+(lo+t)]? =X[lo+t]? :=by
   rw[<-Array.getElem?_toList,hd,List.getElem?_append_right (by omega),List.getElem?_append_left (by omega)];congr 1;omega
  rw[getElem!_def,h3,ht]
 ·cases ht
theorem sym_split {d:Array α} {A X Y Z:List α} {key:α->Int} (hd:d.toList=A++(X++(Y++Z))) (hX:Srt key X) (hY:Srt key Y) {a m b i e:Nat} (ha:a=A.length) (hm:m=a+X.length) (hb:b=m+Y.length)
  (hai:a<=i) (him:i<=m) (hme:m<=e) (heb:e<=b) (c1:i<m->m<e->key d[e-1]! <key d[i]!) (c2:a<i->e<b-> ¬ key d[e]! <key d[i-1]!) :
  mrg key X Y=mrg key (X.take (i-a)) (Y.take (e-m))++mrg key (X.drop (i-a)) (Y.drop (e-m)):=by
 have hd2:d.toList=(A++X)++(Y++Z):=by rw[hd];simp
 have oX:=ord_of hd hX ha hm;have oY:=ord_of (A:=A++X) hd2 hY (a:=m) (by simp;omega) hb
 conv=>lhs;rw[<-List.take_append_drop (i-a) X,<-List.take_append_drop (e-m) Y]
 refine mrg_split' key _ _ _ _ ?_ ?_
 ·intro y hy x hx
  obtain⟨s,s1,s2,rfl⟩:=mem_at hd2 (a:=m) (by simp;omega) 0 (e-m) (by omega) (z:=y) (by simpa using hy);obtain⟨t,t1,t2,rfl⟩:=mem_at hd ha (i-a) X.length (Nat.le_refl _) (z:=x) (by rwa [List.take_of_length_le (Nat.le_refl _)]);have h1:=c1 (by omega) (by omega);have h2:=oY s (e-1) (by omega) (by omega) (by omega);have h3:=oX i t (by omega) (by omega) (by omega);omega
 ·intro x hx y hy
  obtain⟨s,s1,s2,rfl⟩:=mem_at hd2 (a:=m) (by simp;omega) (e-m) Y.length (Nat.le_refl _) (z:=y) (by rwa [List.take_of_length_le (Nat.le_refl _)]);obtain⟨t,t1,t2,rfl⟩:=mem_at hd ha 0 (i-a) (by omega) (z:=x) (by simpa using hx);have h1:=c2 (by omega) (by omega);have h2:=oY e s (by omega) (by omega) (by omega);have h3:=oX t (i-1) (by omega) (by omega) (by omega);omega
set_option maxHeartbeats 16000000 in
set_option maxRecDepth 1000000 in
theorem symMerge_step (L:SwLays P k) (key:α->Int) (cf:α->α->Int) (hcf:∀x y,cf x y<0↔key x<key y) (g:Nat) (cb:Array Value) (eg:∀args w,(callFunc g args).run P w=.ok (.enter g args) w) (cap:Nat)
  (hC:CmpLays P g cb enc k cf blk off d0.size w0) (R:RowK enc k w0 blk off d0) (hsz:d0.size<4611686018427387904) (N:Nat)
  (IH:∀(d:Array α) (w:World) (_:d0.size=d.size) (_:SWK enc k w0 blk off d w) (A X Y Z:List α) (_:d.toList=A++(X++(Y++Z))) (_:Srt key X) (_:Srt key Y) (a m b:Nat) (_:a=A.length) (_:m=a+X.length) (_:b=m+Y.length) (_:0<X.length) (_:0<Y.length) (_:X.length+Y.length<=N),
   Calls P 158 #[.slice (some ⟨blk,off,none⟩) d.size cap,.int .i64 (a:Int),.int .i64 (m:Int),.int .i64 (b:Int),.func (.func g) #[] cb] w fun e w' =>
    e=.returned (.tuple #[])/\ ∃d',SWK enc k w0 blk off d' w'/\d'.toList=A++(mrg key X Y++Z))
  (d:Array α) (w:World) (hs:d0.size=d.size) (S:SWK enc k w0 blk off d w) (A X Y Z:List α) (hd:d.toList=A++(X++(Y++Z))) (hX:Srt key X) (hY:Srt key Y) (a m b:Nat) (ha:a=A.length) (hm:m=a+X.length) (hb:b=m+Y.length)
  (hX2:2<=X.length) (hY2:2<=Y.length) (hN:X.length+Y.length<=N+1) :
  Calls P 158 #[.slice (some ⟨blk,off,none⟩) d.size cap,.int .i64 (a:Int),.int .i64 (m:Int),.int .i64 (b:Int),.func (.func g) #[] cb] w fun e w' =>
   e=.returned (.tuple #[])/\ ∃d',SWK enc k w0 blk off d' w'/\d'.toList=A++(mrg key X Y++Z):=by
 have mixed:=L.mixed;have tu:=L.tu;have au:=L.au;have zu:=L.zu;have vu:=L.vu;have ti:=L.ti;have ai:=L.ai;have zi:=L.zi;have vi:=L.vi;have tb:=L.tb;have ab:=L.ab;have zb:=L.zb;have vb:=L.vb;have tn:=L.tn;have an:=L.an;have zn:=L.zn;have vn:=L.vn;have ts:=L.ts;have aS:=L.aS;have zs:=L.zs;have vs:=L.vs;have tf:=L.tf;have af:=L.af;have zf:=L.zf;have vf:=L.vf;have aE:=L.aE;have zE:=L.zE;have us:=run_underlying L.ts;have eR:∀args w,(callFunc 160 args).run P w=.ok (.enter 160 args) w:=enters_of L.rot (by kernel_rfl) rfl;have eM:∀args w,(callFunc 158 args).run P w=.ok (.enter 158 args) w:=enters_of L.sym (by kernel_rfl) rfl;have hdl:d.size=A.length+X.length+Y.length+Z.length:=by rw[<-Array.length_toList,hd];simp;omega
 have S0:Aside (SWK enc k w0 blk off d w):=S;have HD:Aside (d.toList=A++(X++(Y++Z))):=hd;have HA:Aside (a=A.length/\m=a+X.length/\b=m+Y.length/\d.size=A.length+X.length+Y.length+Z.length/\2<=X.length/\2<=Y.length/\X.length+Y.length<=N+1):=⟨ha,hm,hb,hdl,hX2,hY2,hN⟩
 have OX:Aside _:=ord_of hd hX ha hm;have OY:Aside _:=ord_of (A:=A++X) (Z:=Z) (by rw[hd];simp) hY (a:=m) (by simp;omega) hb;have HC:Aside _:=hC;have HF:Aside _:=hcf;have HI:Aside _:=IH;have HL:Aside (SwLays P k):=L;have hm1:((m:Int)-(a:Int)==1)=false:=by rw[beq_eq_false_iff_ne];omega
 have hm2:((b:Int)-(m:Int)==1)=false:=by rw[beq_eq_false_iff_ne];omega
 have am:a+2<=m:=by omega
 have mb:m+2<=b:=by omega
 have bm:b<=d.size:=by omega
 obtain⟨mid,hmid⟩:∃mid,mid=(a+b)/2:=⟨_,rfl⟩
 obtain⟨n,hn⟩:∃n,n=mid+m:=⟨_,rfl⟩
 obtain⟨p,hp⟩:∃p,p+1=n:=⟨n-1,by omega⟩
 obtain⟨st0,r0,hsr⟩:∃st0 r0,(mid<m/\st0+b=n/\r0=mid)∨(m<=mid/\st0=a/\r0=m):=by
  by_cases h:mid<m
  ·exact⟨n-b,mid,.inl ⟨h,by omega,rfl⟩⟩
  ·exact⟨a,m,.inr ⟨by omega,rfl,rfl⟩⟩
 have zmid:((a:Int)+(b:Int))/2=(mid:Int):=by omega
 have zn:(mid:Int)+(m:Int)=(n:Int):=by omega
 have zp:(n:Int)-1=(p:Int):=by omega
 have bn1:n<9223372036854775808:=by omega
 have bn2:1<=n:=by omega
 have bn3:p<n:=by omega
 have f1:a<mid:=by omega
 have f2:mid<b:=by omega
 have f3:st0<=r0:=by omega
 have f4:r0<=m:=by omega
 have f5:a<=st0:=by omega
 have HS:Aside ((mid<m/\st0+b=n/\r0=mid)∨(m<=mid/\st0=a/\r0=m)):=hsr;have HN:Aside (mid=(a+b)/2/\n=mid+m/\p+1=n):=⟨hmid,hn,hp⟩
 have hRange:∀t,st0<=t->t<r0->a<=t/\t<m/\m<=p-t/\p-t<b/\t<=p:=by intro t q1 q2;omega
 have HR:Aside _:=hRange;clear S hd ha hb hdl hC hcf L hm IH hsr hmid hn hp hRange hX2 hY2 hN;have ZZ:Aside (((a:Int)+(b:Int))/2=(mid:Int)/\(mid:Int)+(m:Int)=(n:Int)/\(n:Int)-1=(p:Int)):=⟨zmid,zn,zp⟩
 clear zmid zn zp;go_enter HL.out.sym,Tryz.ntmps158
 go_upto_if 140 with fail
 simp only[ZZ.out.1,ZZ.out.2.1];go_cut [18,19,20,21] from 25 (fun s18 s19 s20 s21 wx=>s18=.int .i64 (mid:Int)/\s19=.int .i64 (n:Int)/\s20=.int .i64 (st0:Int)/\s21=.int .i64 (r0:Int)/\w=wx)
 case first =>
  as_aux_lemma =>
   rcases HS.out with ⟨q1,q2,q3⟩|⟨q1,q2,q3⟩
   ·have z1:(mid:Int)<(m:Int):=by omega
    have z2:(n:Int)-(b:Int)=(st0:Int):=by omega
    have HQ:Aside (r0=mid):=q3;clear q1 q2 q3;go_wp2_with fail
    go_meet
    exact⟨rfl,rfl,by first|rfl|go_num,by rw[HQ.out],rfl⟩
   ·have z1: ¬ (mid:Int)<(m:Int):=by omega
    have HQ:Aside (st0=a/\r0=m):=⟨q2,q3⟩
    clear q1 q2 q3;go_wp2_with fail
    go_meet
    exact⟨rfl,rfl,by rw[HQ.out.1],by rw[HQ.out.2],rfl⟩
 case rest =>
  as_aux_lemma =>
   obtain⟨rfl,rfl,rfl,rfl,rfl⟩:=hcut;go_wp2_with fail
   simp only[ZZ.out.2.2];go_loopg [20,21] (r0-st0) (fun kx s10 s11 wr=>∃(i j:Nat),s10=.int .i64 (i:Int)/\s11=.int .i64 (j:Int)/\st0<=i/\i<=j/\j<=r0/\j-i<=kx /\
    Aside (SWK enc k w0 blk off d wr/\(∀t,st0<=t->t<i-> ¬ key d[p-t]! <key d[t]!)/\(∀t,j<=t->t<r0->key d[p-t]! <key d[t]!)))
   case atStart=>exact⟨st0,r0,rfl,rfl,by omega,by omega,by omega,by omega,S0.out,fun t h1 h2=>by omega,fun t h1 h2=>by omega⟩
   case round =>
    as_aux_lemma =>
     clear S0;obtain⟨i,j,rfl,rfl,hi,hij,hj,hkx,H⟩:=hrel;by_cases hlt:(i:Int)<(j:Int)
     ·as_aux_lemma =>
       go_wp2_with fail
       obtain⟨h,he⟩:∃h,h=(i+j)/2:=⟨_,rfl⟩
       have hh:((i:Int)+(j:Int))/2=(h:Int):=by omega
       have h1:i<=h:=by omega
       have h2:h<j:=by omega
       simp only[hh];clear hh he;obtain⟨r1,r2,r3,r4,r5⟩:=HR.out h (by omega) (by omega);obtain⟨q,hq⟩:∃q,q=p-h:=⟨_,rfl⟩
       have wq:IntKind.i64.wrap ((p:Int)-(h:Int))=(q:Int):=by rw[IntKind.wrap_i64];omega
       have ph:(0:Int)<=(h:Int):=by omega
       have pa:(0:Int)<=(q:Int):=by omega
       have bh:(h:Int)<(d.size:Int):=by omega
       have ba:(q:Int)<(d.size:Int):=by omega
       have th:(h:Int).toNat=h:=by omega
       have ta:(q:Int).toNat=q:=by omega
       have lh:=fun n' os'=>H.out.1.ld R hs.symm P h (by omega) n' os'
       have la:=fun n' os'=>H.out.1.ld R hs.symm P q (by omega) n' os'
       have hcg:=fun n' os'=>H.out.1.cmp HC.out hs.symm d[q]! d[h]! n' os'
       have HQ:Aside (∀n' os',SWK enc k w0 blk off d (grow (wr.drewN n') os')):=fun n' os'=>H.out.1.grown n' os'
       obtain⟨xh,hxh⟩:∃y,y=d[h]! :=⟨_,rfl⟩
       obtain⟨xa,hxa⟩:∃y,y=d[q]! :=⟨_,rfl⟩
       rw[<-hxh] at lh hcg;rw[<-hxa] at la hcg;have HXH:Aside (xh=d[h]! /\xa=d[p-h]!):=⟨hxh,by rw[hxa,hq]⟩
       have HR5:Aside (a<=h/\h<m/\m<=p-h/\p-h<b/\h<=p):=⟨r1,r2,r3,r4,r5⟩
       clear hxh hxa hq r1 r2 r3 r4 r5;by_cases hlv:cf xa xh<0
       ·go_wp2_with fail
        go_quiet_grown (first|(go_at_fn g;refine Calls.grown_of (hcg _ _)))
        clear lh la hcg;go_wp2
        go_roundg (h-i)
        case measure=>omega
        case rel =>
         refine⟨i,h,rfl,rfl,by omega,by omega,by omega,by omega,HQ.out _ _,H.out.2.1,fun t q1 q2=>?_⟩;obtain⟨e1,e2⟩:=HXH.out;have h3:=(HF.out _ _).1 hlv;rw[e1,e2] at h3;have g5:=HR5.out;have g6:=HR.out t (by omega) q2;have h4:=OX.out h t (by omega) q1 (by omega);have h5:=OY.out (p-t) (p-h) (by omega) (by omega) (by omega);omega
       ·have hdz:(!decide (cf xa xh<0))=true:=by rw[decide_eq_false hlv];rfl
        go_wp2_with fail
        go_quiet_grown (first|(go_at_fn g;refine Calls.grown_of (hcg _ _)))
        clear lh la hcg;go_wp2
        go_roundg (j-(h+1))
        case measure=>omega
        case rel =>
         refine⟨h+1,j,by go_num,rfl,by omega,by omega,by omega,by omega,HQ.out _ _,fun t q1 q2=>?_,H.out.2.2⟩;obtain⟨e1,e2⟩:=HXH.out;have h3: ¬ key xa<key xh:=fun q=>by have:=(HF.out _ _).2 q;omega
         rw[e1,e2] at h3;have g5:=HR5.out;have g6:=HR.out t (by omega) (by omega);have h4:=OX.out t h (by omega) (by omega) (by omega);have h5:=OY.out (p-h) (p-t) (by omega) (by omega) (by omega);omega
     ·have hij':j=i:=by omega
      subst hij';have hS1:Aside (SWK enc k w0 blk off d wr):=H.out.1;obtain⟨e,he⟩:∃e,e+j=n:=⟨n-j,by have:=HN.out;omega⟩
      have ze:(n:Int)-(j:Int)=(e:Int):=by omega
      have g1:a<=j:=by omega
      have g2:j<=m:=by omega
      have g3:m<=e:=by have:=HN.out;rcases HS.out with q|q<;>omega
      have g4:e<=b:=by have:=HN.out;rcases HS.out with q|q<;>omega
      have hsp:=sym_split (e:=e) (i:=j) HD.out hX hY HA.out.1 HA.out.2.1 HA.out.2.2.1 g1 g2 g3 g4 (fun q1 q2=>by
       have hN':=HN.out;have h3:j<r0:=by rcases HS.out with q|q<;>omega
       have:=H.out.2.2 j (Nat.le_refl _) h3
       rwa [show p-j=e-1 by omega] at this) (fun q1 q2=>by
       have hN':=HN.out;have h3:st0<j:=by rcases HS.out with q|q<;>omega
       have:=H.out.2.1 (j-1) (by omega) (by omega)
       rwa [show p-(j-1)=e by omega] at this)
      obtain⟨X1,X2,hX12,x1,x2⟩:∃X1 X2,X=X1++X2/\X1=X.take (j-a)/\X2=X.drop (j-a):=⟨_,_,(List.take_append_drop (j-a) X).symm,rfl,rfl⟩
      obtain⟨Y1,Y2,hY12,y1,y2⟩:∃Y1 Y2,Y=Y1++Y2/\Y1=Y.take (e-m)/\Y2=Y.drop (e-m):=⟨_,_,(List.take_append_drop (e-m) Y).symm,rfl,rfl⟩
      rw[<-x1,<-x2,<-y1,<-y2] at hsp;have lens:X1.length=j-a/\X2.length=m-j/\Y1.length=e-m/\Y2.length=b-e:=by
       have:=HA.out;rw[x1,x2,y1,y2];simp;omega
      have srt:Srt key X1/\Srt key X2/\Srt key Y1/\Srt key Y2:=by
       rw[hX12] at hX;rw[hY12] at hY;have h1:=List.pairwise_append.1 hX;have h2:=List.pairwise_append.1 hY;exact⟨h1.1,h1.2.1,h2.1,h2.2.1⟩
      have hemid:e+j=mid+m:=by have:=HN.out;omega
      have hA1:=HA.out;have HG:Aside (mrg key X Y=mrg key X1 Y1++mrg key X2 Y2/\X1.length=j-a/\X2.length=m-j/\Y1.length=e-m/\Y2.length=b-e/\Srt key X1/\Srt key X2/\Srt key Y1/\Srt key Y2/\e+j=mid+m/\a=A.length/\d.size=A.length+X.length+Y.length+Z.length/\d.toList=A++((X1++X2)++((Y1++Y2)++Z))/\X.length+Y.length<=N+1/\X.length=X1.length+X2.length/\Y.length=Y1.length+Y2.length) :=
       ⟨hsp,lens.1,lens.2.1,lens.2.2.1,lens.2.2.2,srt.1,srt.2.1,srt.2.2.1,srt.2.2.2,hemid,hA1.1,hA1.2.2.2.1,by rw[<-hX12,<-hY12];exact HD.out,hA1.2.2.2.2.2.2,by rw[hX12,List.length_append],by rw[hY12,List.length_append]⟩
      clear hsp hX12 x1 x2 hY12 y1 y2 lens srt hemid hA1 H HD HA he hkx OX OY HR hX hY HN HS;have HZ:Aside ((n:Int)-(j:Int)=(e:Int)):=ze;clear ze;go_upto_region 39 with fail
      simp only[HZ.out];go_cut [185] from 25 (fun s wx=>s=.bool (decide (j<m/\m<e))/\wr=wx)
      case first =>
       as_aux_lemma =>
        by_cases q1:(j:Int)<(m:Int)
        ·by_cases q2:(m:Int)<(e:Int)
         ·as_aux_lemma =>
           go_wp2_with fail
           go_meet
           exact⟨congrArg Value.bool (decide_eq_true (by omega)).symm,rfl⟩
         ·as_aux_lemma =>
           go_wp2_with fail
           go_meet
           exact⟨congrArg Value.bool (decide_eq_false (by omega)).symm,rfl⟩
        ·as_aux_lemma =>
          go_wp2_with fail
          go_meet
          exact⟨congrArg Value.bool (decide_eq_false (by omega)).symm,rfl⟩
      case rest =>
       as_aux_lemma =>
        obtain⟨rfl,rfl⟩:=hcut;go_upto_if 185 with fail
        go_cut [20] from 25 (fun s20 wx=>s20=.int .i64 (j:Int)/\ ∃d1:Array α,Aside (SWK enc k w0 blk off d1 wx/\d1.size=d.size/\d1.toList=A++((X1++Y1)++((X2++Y2)++Z))))
        case first =>
         as_aux_lemma =>
          by_cases hA:j<m/\m<e
          ·as_aux_lemma =>
            have hdd:decide (j<m/\m<e)=true:=decide_eq_true hA;have hc:=rotate_is HL.out (.func (.func g) #[] cb) cap d wr R hs hS1.out (by omega) (A++X1) X2 Y1 (Y2++Z) (by rw[HG.out.2.2.2.2.2.2.2.2.2.2.2.2.1];simp) j m e (by have:=HG.out;simp;omega) (by have:=HG.out;simp;omega) (by have:=HG.out;simp;omega) (by have:=HG.out;omega) (by have:=HG.out;omega);go_wp2_with (go_at_fn 160;refine hc.mono ?_;rintro e2 w2 ⟨rfl,d1,S1,h1⟩)
            go_meet
            refine⟨rfl,d1,S1,?_,by rw[h1];simp⟩;have:=HG.out;rw[<-Array.length_toList,h1];simp;omega
          ·as_aux_lemma =>
            have hdd:decide (j<m/\m<e)=false:=decide_eq_false hA;go_wp2_with fail
            go_meet
            refine⟨rfl,d,hS1.out,rfl,?_⟩;have hg:=HG.out;rw[hg.2.2.2.2.2.2.2.2.2.2.2.2.1];by_cases hq:j<m
            ·have:Y1=[]:=List.eq_nil_of_length_eq_zero (by omega)
             rw[this];simp
            ·have:X2=[]:=List.eq_nil_of_length_eq_zero (by omega)
             rw[this];simp
        case rest =>
         as_aux_lemma =>
          obtain⟨rfl,d1,S1⟩:=hcut;obtain⟨w1,hw1⟩:∃x,x=wc:=⟨_,rfl⟩
          subst hw1;go_upto_region 41 with fail
          go_cut [199] from 25 (fun s wx=>s=.bool (decide (a<j/\j<mid))/\w1=wx)
          case first =>
           as_aux_lemma =>
            by_cases q1:(a:Int)<(j:Int)
            ·by_cases q2:(j:Int)<(mid:Int)
             ·as_aux_lemma =>
               go_wp2_with fail
               go_meet
               exact⟨congrArg Value.bool (decide_eq_true (by omega)).symm,rfl⟩
             ·as_aux_lemma =>
               go_wp2_with fail
               go_meet
               exact⟨congrArg Value.bool (decide_eq_false (by omega)).symm,rfl⟩
            ·as_aux_lemma =>
              go_wp2_with fail
              go_meet
              exact⟨congrArg Value.bool (decide_eq_false (by omega)).symm,rfl⟩
          case rest =>
           as_aux_lemma =>
            obtain⟨rfl,rfl⟩:=hcut;go_upto_if 199 with fail
            go_cut [20] from 25 (fun s20 wx=>s20=.int .i64 (j:Int)/\ ∃d2:Array α,Aside (SWK enc k w0 blk off d2 wx/\d2.size=d.size/\d2.toList=A++(mrg key X1 Y1++((X2++Y2)++Z))))
            case first =>
             as_aux_lemma =>
              by_cases hA:a<j/\j<mid
              ·as_aux_lemma =>
                have hdd:decide (a<j/\j<mid)=true:=decide_eq_true hA;have hc:=HI.out d1 w1 (by have:=S1.out.2.1;omega) S1.out.1 A X1 Y1 ((X2++Y2)++Z) (by rw[S1.out.2.2];simp) HG.out.2.2.2.2.2.1 HG.out.2.2.2.2.2.2.2.1 a j mid (by have:=HG.out;omega) (by have:=HG.out;omega) (by have:=HG.out;omega) (by have:=HG.out;omega) (by have:=HG.out;omega) (by have:=HG.out;omega);rw[S1.out.2.1] at hc;go_wp2_with (go_at_fn 158;refine hc.mono ?_;rintro e2 w2 ⟨rfl,d2,S2,h2⟩)
                go_meet
                refine⟨rfl,d2,S2,?_,by rw[h2]⟩;have hg:=HG.out;rw[<-Array.length_toList,h2];simp only[List.length_append,length_mrg];omega
              ·as_aux_lemma =>
                have hdd:decide (a<j/\j<mid)=false:=decide_eq_false hA;go_wp2_with fail
                go_meet
                refine⟨rfl,d1,S1.out.1,S1.out.2.1,?_⟩;have hg:=HG.out;rw[S1.out.2.2];by_cases hq:a<j
                ·have:Y1=[]:=List.eq_nil_of_length_eq_zero (by omega)
                 rw[this,mrg_nil_right];simp
                ·have:X1=[]:=List.eq_nil_of_length_eq_zero (by omega)
                 rw[this,mrg_nil_left];simp
            case rest =>
             as_aux_lemma =>
              obtain⟨rfl,d2,S2⟩:=hcut;obtain⟨w2,hw2⟩:∃x,x=wc:=⟨_,rfl⟩
              subst hw2;clear S1;go_upto_region 43 with fail
              go_cut [213] from 25 (fun s wx=>s=.bool (decide (mid<e/\e<b))/\w2=wx)
              case first =>
               as_aux_lemma =>
                by_cases q1:(mid:Int)<(e:Int)
                ·by_cases q2:(e:Int)<(b:Int)
                 ·as_aux_lemma =>
                   go_wp2_with fail
                   go_meet
                   exact⟨congrArg Value.bool (decide_eq_true (by omega)).symm,rfl⟩
                 ·as_aux_lemma =>
                   go_wp2_with fail
                   go_meet
                   exact⟨congrArg Value.bool (decide_eq_false (by omega)).symm,rfl⟩
                ·as_aux_lemma =>
                  go_wp2_with fail
                  go_meet
                  exact⟨congrArg Value.bool (decide_eq_false (by omega)).symm,rfl⟩
              case rest =>
               as_aux_lemma =>
                obtain⟨rfl,rfl⟩:=hcut;by_cases hA:mid<e/\e<b
                ·as_aux_lemma =>
                  have hdd:decide (mid<e/\e<b)=true:=decide_eq_true hA;have hc:=HI.out d2 w2 (by have:=S2.out.2.1;omega) S2.out.1 (A++mrg key X1 Y1) X2 Y2 Z (by rw[S2.out.2.2];simp) HG.out.2.2.2.2.2.2.1 HG.out.2.2.2.2.2.2.2.2.1 mid e b (by have:=HG.out;simp only[List.length_append,length_mrg];omega) (by have:=HG.out;omega) (by have:=HG.out;omega) (by have:=HG.out;omega) (by have:=HG.out;omega) (by have:=HG.out;omega);rw[S2.out.2.1] at hc;go_wp2_with (go_at_fn 158;refine hc.mono ?_;rintro e2 w3 ⟨rfl,d3,S3,h3⟩)
                  go_end0
                  refine⟨rfl,d3,S3,?_⟩;rw[h3,HG.out.1];simp
                ·as_aux_lemma =>
                  have hdd:decide (mid<e/\e<b)=false:=decide_eq_false hA;go_wp2_with fail
                  go_end0
                  refine⟨rfl,d2,S2.out.1,?_⟩;have hg:=HG.out;rw[S2.out.2.2,hg.1];by_cases hq:mid<e
                  ·have:Y2=[]:=List.eq_nil_of_length_eq_zero (by omega)
                   rw[this,mrg_nil_right];simp
                  ·have:X2=[]:=List.eq_nil_of_length_eq_zero (by omega)
                   rw[this,mrg_nil_left];simp
end
end Go.Proofs.YtjligbmickfbdaaGreat
