/- slices.SortStableFunc at structs: the whole. slices.SortStableFunc at lens's things. What the stable sort leaves of a slice of pairs. -/
import Derived.Test.YtjligbmickfbdaaGreatBe28
import Derived.Test.YtjligbmickfbdaaGreatBe22
import Derived.Shelf.SlicesG.Cmp
import Derived.Ground.SlgcProg
import Derived.Test.YtjligbmickfbdaaGreatBe15
namespace Go.Proofs.YtjligbmickfbdaaGreat
open Go.Shelf Go.RowKit Go.Lib Go.Sort St
section
variable {P:Program} {k:Nat} {α:Type} [Inhabited α] {enc:α->List Value} {blk off:Nat} {w0:World} {d0:Array α}
theorem symMerge_is (L:SwLays P k) (key:α->Int) (cf:α->α->Int) (hcf:∀x y,cf x y<0↔key x<key y) (g:Nat) (cb:Array Value) (eg:∀args w,(callFunc g args).run P w=.ok (.enter g args) w) (cap:Nat)
  (hC:CmpLays P g cb enc k cf blk off d0.size w0) (R:RowK enc k w0 blk off d0) (hsz:d0.size<4611686018427387904):∀(N:Nat) (d:Array α) (w:World) (_:d0.size=d.size) (_:SWK enc k w0 blk off d w) (A X Y Z:List α) (_:d.toList=A++(X++(Y++Z))) (_:Srt key X) (_:Srt key Y) (a m b:Nat) (_:a=A.length) (_:m=a+X.length) (_:b=m+Y.length) (_:0<X.length) (_:0<Y.length) (_:X.length+Y.length<=N),
   Calls P 158 #[.slice (some ⟨blk,off,none⟩) d.size cap,.int .i64 (a:Int),.int .i64 (m:Int),.int .i64 (b:Int),.func (.func g) #[] cb] w fun e w' =>
    e=.returned (.tuple #[])/\ ∃d',SWK enc k w0 blk off d' w'/\d'.toList=A++(mrg key X Y++Z):=by
 intro N
 induction N with
 |zero=>intro d w hs S A X Y Z hd hX hY a m b ha hm hb h1 h2 hN;omega
 |succ N ih =>
  intro d w hs S A X Y Z hd hX hY a m b ha hm hb h1 h2 hN;by_cases hx1:X.length=1
  ·obtain⟨x,rfl⟩:=List.length_eq_one_iff.1 hx1
   exact symMerge_one L key cf hcf g cb eg cap hC R d w hs S (by omega) A Y Z x (by rw[hd];rfl) hY a m b ha (by simpa using hm) hb
  ·by_cases hy1:Y.length=1
   ·obtain⟨y,rfl⟩:=List.length_eq_one_iff.1 hy1
    exact symMerge_last L key cf hcf g cb eg cap hC R d w hs S (by omega) A X Z y (by rw[hd];rfl) hX a m b ha hm (by simpa using hb) (by omega)
   ·exact symMerge_step L key cf hcf g cb eg cap hC R hsz N ih d w hs S A X Y Z hd hX hY a m b ha hm hb (by omega) (by omega) hN
omit [Inhabited α] in
theorem swk_size {dk d:Array α} {l:List α} (h:dk.toList=l) (h':l.length=d.size):dk.size=d.size:=by rw[<-Array.length_toList,h,h']
set_option maxHeartbeats 2000000 in
set_option maxRecDepth 1000000 in
theorem stable_is (L:SwLays P k) (key:α->Int) (cf:α->α->Int) (hcf:∀x y,cf x y<0↔key x<key y) (g:Nat) (cb:Array Value) (eg:∀args w,(callFunc g args).run P w=.ok (.enter g args) w) (cap:Nat)
  (hC:CmpLays P g cb enc k cf blk off d0.size w0) (R:RowK enc k w0 blk off d0) (hsz:d0.size<1152921504606846976) (e169:∀args w,(callFunc 157 args).run P w=.ok (.enter 157 args) w)
  (hIns:∀(d:Array α) (w:World) (_:d0.size=d.size) (_:SWK enc k w0 blk off d w) (A M B:List α) (_:d.toList=A++(M++B)) (a b:Nat) (_:a=A.length) (_:b=a+M.length),
   Calls P 157 #[.slice (some ⟨blk,off,none⟩) d.size cap,.int .i64 (a:Int),.int .i64 (b:Int),.func (.func g) #[] cb] w fun e w' =>
    e=.returned (.tuple #[])/\ ∃d',SWK enc k w0 blk off d' w'/\d'.toList=A++(stab key M++B))
  (d:Array α) (w:World) (hs:d0.size=d.size) (S:SWK enc k w0 blk off d w) :
  Calls P 155 #[.slice (some ⟨blk,off,none⟩) d.size cap,.int .i64 (d.size:Int),.func (.func g) #[] cb] w fun e w' =>
   e=.returned (.tuple #[])/\ ∃d',SWK enc k w0 blk off d' w'/\d'.toList=stab key d.toList:=by
 have mixed:=L.mixed;have tu:=L.tu;have au:=L.au;have zu:=L.zu;have vu:=L.vu;have ti:=L.ti;have ai:=L.ai;have zi:=L.zi;have vi:=L.vi;have tb:=L.tb;have ab:=L.ab;have zb:=L.zb;have vb:=L.vb;have tn:=L.tn;have an:=L.an;have zn:=L.zn;have vn:=L.vn;have ts:=L.ts;have aS:=L.aS;have zs:=L.zs;have vs:=L.vs;have tf:=L.tf;have af:=L.af;have zf:=L.zf;have vf:=L.vf;have aE:=L.aE;have zE:=L.zE;have us:=run_underlying L.ts;have eM:∀args w,(callFunc 158 args).run P w=.ok (.enter 158 args) w:=enters_of L.sym (by kernel_rfl) rfl;have hM:=symMerge_is L key cf hcf g cb eg cap hC R (by omega);have HM:Aside _:=hM;have HI:Aside _:=hIns;have HL:Aside (SwLays P k):=L;obtain⟨l,hl⟩:∃l,l=d.toList:=⟨_,rfl⟩
 have hll:l.length=d.size:=by rw[hl];simp
 rw[<-hl];have S0:Aside (SWK enc k w0 blk off d w/\d.toList=l):=⟨S,hl.symm⟩
 have HLL:Aside (l.length=d.size):=hll;have bd:d.size<1152921504606846976:=by omega
 clear hC hcf hM hIns L S hl hll;go_enter HL.out.stb,Tryz.ntmps155
 go_wp2_with fail
 go_loopg [7,8] d.size (fun kx s7 s8 wr=>∃(a:Nat) (dk:Array α),s7=.int .i64 (a:Int)/\s8=.int .i64 ((a+20:Nat):Int)/\a<=d.size/\d.size-a<=kx/\dk.size=d.size /\
  Aside (SWK enc k w0 blk off dk wr/\ ∃D,D.length=a/\dk.toList=D++l.drop a/\D++cs key 20 (l.drop a)=cs key 20 l))
 case atStart=>exact⟨0,d,rfl,rfl,by omega,by omega,rfl,S0.out.1,[],rfl,by rw[S0.out.2];rfl,rfl⟩
 case round =>
  clear S0;obtain⟨a,dk,rfl,rfl,ha,hkx,hds,H⟩:=hrel;by_cases hle:((a+20:Nat):Int)<=(d.size:Int)
  ·obtain⟨S1,D,hD,hdk,hcs⟩:=H.out
   have hlen:=HLL.out;have hc:=HI.out dk wr (by omega) S1 D ((l.drop a).take 20) (l.drop (a+20)) (by rw[hdk,<-List.drop_drop,List.take_append_drop]) a (a+20) hD.symm (by simp;omega);rw[hds] at hc;have hnx:∀d':Array α,d'.toList=D++(stab key ((l.drop a).take 20)++l.drop (a+20))->d'.size=d.size/\ ∃D,D.length=a+20/\d'.toList=D++l.drop (a+20)/\D++cs key 20 (l.drop (a+20))=cs key 20 l:=by
    intro d' h;refine⟨swk_size h (by simp[length_stab];omega),D++stab key ((l.drop a).take 20),by simp[length_stab];omega,by rw[h];simp,?_⟩;rw[<-hcs,cs_ge key (by omega) (show 20<=(l.drop a).length by simp;omega),List.drop_drop];simp
   have HX:=Lib.hid hnx;clear hnx S1 hD hdk hcs H hlen;obtain⟨b,hb⟩:∃b,b=a+20:=⟨_,rfl⟩
   rw[<-hb] at hc hle HX ⊢;have hb2:b+20<9223372036854775807:=by omega
   have HB:Aside (b=a+20):=hb;have hab:a<b:=by omega
   clear hb;go_wp2_with (go_at_fn 157;refine hc.mono ?_;rintro e2 w2 ⟨rfl,d2,S2,h2⟩)
   have h3:=HX.out d2 h2;clear h2 hc HX;have S3:Aside _:=And.intro S2 h3.2;have h4:=h3.1;clear S2 h3;go_wp2
   go_roundg (d.size-b)
   case measure=>omega
   case rel=>exact⟨b,d2,rfl,by first|rfl|go_num,by omega,by omega,h4,S3⟩
  ·obtain⟨S1,D,hD,hdk,hcs⟩:=H.out
   have hlen:=HLL.out;have hc:=HI.out dk wr (by omega) S1 D (l.drop a) [] (by rw[hdk,List.append_nil]) a d.size hD.symm (by simp;omega);rw[hds] at hc;have hnx:∀d':Array α,d'.toList=D++(stab key (l.drop a)++[])->d'.size=d.size/\d'.toList=cs key 20 l:=by
    intro d' h;refine⟨swk_size h (by simp[length_stab];omega),?_⟩;rw[h,<-hcs,cs_small key (by simp;omega)];simp
   have HX:=Lib.hid hnx;clear hnx S1 hD hdk hcs H hlen HI;go_wp2_with (go_at_fn 157;refine hc.mono ?_;rintro e2 w2 ⟨rfl,d2,S2,h2⟩)
   have h3:=HX.out d2 h2;clear h2 hc HX;have S3:Aside (SWK enc k w0 blk off d2 w2/\d2.toList=cs key 20 l):=And.intro S2 h3.2;have h4:=h3.1;clear S2 h3;go_wp2_with fail
   go_loopg [6] d.size (fun kx s6 wr=>∃(bs:Nat) (dk:Array α),s6=.int .i64 (bs:Int)/\0<bs/\bs<=2*d.size+40/\d.size-bs<=kx/\dk.size=d.size/\Aside (SWK enc k w0 blk off dk wr/\dk.toList=cs key bs l))
   case atStart=>exact⟨20,d2,rfl,by omega,by omega,by omega,h4,S3⟩
   case round =>
    clear S3 h4;obtain⟨bs,dk,rfl,hbs,hbs2,hkx,hds,H⟩:=hrel;by_cases hlt:(bs:Int)<(d.size:Int)
    ·have bB:bs<d.size:=by omega
     go_wp2_with fail
     go_loopg [7,8] d.size (fun kx s7 s8 wr=>∃(a b:Nat) (dk:Array α),s7=.int .i64 (a:Int)/\s8=.int .i64 (b:Int)/\b=a+2*bs/\a<=d.size/\d.size-a<=kx/\dk.size=d.size /\
      Aside (SWK enc k w0 blk off dk wr/\ ∃D,D.length=a/\dk.toList=D++cs key bs (l.drop a)/\D++cs key (2*bs) (l.drop a)=cs key (2*bs) l))
     case atStart=>exact⟨0,2*bs,dk,rfl,by first|rfl|go_num,by omega,by omega,by omega,hds,H.out.1,[],rfl,by rw[H.out.2];rfl,rfl⟩
     case round =>
      clear H;obtain⟨a,b,dk,rfl,rfl,hab,ha,hkx,hds,H⟩:=hrel;by_cases hle:(b:Int)<=(d.size:Int)
      ·obtain⟨S1,D,hD,hdk,hcs⟩:=H.out
       have hlen:=HLL.out;have ht:=cs_twice key hbs (show 2*bs<=(l.drop a).length by simp;omega);have hc:=HM.out (2*bs) dk wr (by omega) S1 D (stab key ((l.drop a).take bs)) (stab key (((l.drop a).drop bs).take bs)) (cs key bs ((l.drop a).drop (2*bs))) (by rw[hdk,ht.1]) (stab_srt key _) (stab_srt key _) a (a+bs) b hD.symm (by simp[length_stab];omega) (by simp[length_stab];omega) (by simp[length_stab];omega) (by simp[length_stab];omega) (by simp[length_stab];omega);rw[hds] at hc;have hnx:∀d':Array α,d'.toList=D++(mrg key (stab key ((l.drop a).take bs)) (stab key (((l.drop a).drop bs).take bs))++cs key bs ((l.drop a).drop (2*bs)))->d'.size=d.size/\ ∃D,D.length=b/\d'.toList=D++cs key bs (l.drop b)/\D++cs key (2*bs) (l.drop b)=cs key (2*bs) l:=by
        intro d' h;have e1:(l.drop a).drop (2*bs)=l.drop b:=by rw[List.drop_drop,hab]
        refine⟨?_,D++mrg key (stab key ((l.drop a).take bs)) (stab key (((l.drop a).drop bs).take bs)),by simp[length_stab,length_mrg];omega,by rw[h,e1];simp,?_⟩
        ·rw[<-hds,<-Array.length_toList,<-Array.length_toList (xs:=dk),h,hdk,ht.1];simp[length_mrg];omega
        ·rw[<-hcs,ht.2,e1];simp
       have HX:=Lib.hid hnx;clear hnx S1 hD hdk hcs H hlen ht;rw[Int.natCast_add] at hc;have HAB:Hid (b=a+2*bs):=hab;have hab1:a<b:=by omega
       clear hab;go_wp2_with (go_at_fn 158;refine hc.mono ?_;rintro e2 w2 ⟨rfl,d3,S5,h5⟩)
       have h6:=HX.out d3 h5;clear h5 hc HX;have S6:Aside _:=And.intro S5 h6.2;have h7:=h6.1;clear S5 h6;go_wp2
       go_roundg (d.size-b)
       case measure=>omega
       case rel=>exact⟨b,b+2*bs,d3,rfl,by first|rfl|go_num,by omega,by omega,by omega,h7,S6.out⟩
      ·obtain⟨S1,D,hD,hdk,hcs⟩:=H.out
       have hlen:=HLL.out;have HAB:Hid (b=a+2*bs):=hab;by_cases hmn:(a:Int)+(bs:Int)<(d.size:Int)
       ·have ht:=cs_last key hbs (show bs<=(l.drop a).length by simp;omega) (show(l.drop a).length<2*bs by simp;omega)
        have hc:=HM.out (2*bs) dk wr (by omega) S1 D (stab key ((l.drop a).take bs)) (stab key ((l.drop a).drop bs)) [] (by rw[hdk,ht.1,List.append_nil]) (stab_srt key _) (stab_srt key _) a (a+bs) d.size hD.symm (by simp[length_stab];omega) (by simp[length_stab];omega) (by simp[length_stab];omega) (by simp[length_stab];omega) (by simp[length_stab];omega);rw[hds,Int.natCast_add] at hc;have hnx:∀d':Array α,d'.toList=D++(mrg key (stab key ((l.drop a).take bs)) (stab key ((l.drop a).drop bs))++[])->d'.size=d.size/\d'.toList=cs key (2*bs) l:=by
         intro d' h;refine⟨?_,?_⟩
         ·rw[<-hds,<-Array.length_toList,<-Array.length_toList (xs:=dk),h,hdk,ht.1];simp[length_mrg]
         ·rw[h,<-hcs,ht.2];simp
        have HX:=Lib.hid hnx;clear hnx S1 hD hdk hcs H hlen ht hab;go_wp2_with (go_at_fn 158;refine hc.mono ?_;rintro e2 w2 ⟨rfl,d3,S5,h5⟩)
        have h6:=HX.out d3 h5;clear h5 hc HX;have S6:Aside (SWK enc k w0 blk off d3 _/\d3.toList=cs key (2*bs) l):=And.intro S5 h6.2;have h7:=h6.1;clear S5 h6;go_wp2
        go_roundg (d.size-2*bs)
        case measure=>omega
        case rel=>exact⟨2*bs,d3,by first|rfl|go_num,by omega,by omega,by omega,h7,S6⟩
       ·have hcs2:dk.toList=cs key (2*bs) l:=by
         rw[hdk,<-hcs,cs_small key (by simp;omega),cs_small key (by simp;omega)]
        have S6:Aside (SWK enc k w0 blk off dk wr/\dk.toList=cs key (2*bs) l):=And.intro S1 hcs2;clear S1 hD hdk hcs H hlen hcs2 hab;go_wp2
        go_roundg (d.size-2*bs)
        case measure=>omega
        case rel=>exact⟨2*bs,dk,by first|rfl|go_num,by omega,by omega,by omega,hds,S6⟩
    ·obtain⟨S1,h1⟩:=H.out
     have hlen:=HLL.out;have h2:dk.toList=stab key l:=by rw[h1,cs_small key (by omega)]
     have S6:Aside (SWK enc k w0 blk off dk wr/\dk.toList=stab key l):=And.intro S1 h2;clear S1 h1 H hlen h2;go_wp2
     go_end0
     exact⟨rfl,dk,S6.out⟩
end
end Go.Proofs.YtjligbmickfbdaaGreat
namespace Go.Proofs.YtjligbmickfbdaaGreat
open Go.Shelf Go.RowKit Go.Lib Go.Sort St
shelf_lay_g SlLaysF0.n20 Slsf 20 at Tryz 157 as SwIns
shelf_lay_g SlLaysC2.n5 Slgc 5 at Tryz 156 as SwCmp
def encW (x:Int×Int):List Value:=[.int .i64 x.1,.int .i64 x.2]
set_option maxHeartbeats 1000000 in
theorem against_any (x y:Int×Int) (W:World):Calls Tryz.prog 148 #[.agg #[.int .i64 x.1,.int .i64 x.2],.agg #[.int .i64 y.1,.int .i64 y.2]] W fun e w'=>e=.returned (.int .i64 (Lib.compareInt x.1 y.1))/\ ∃q os',w'=grow (W.drewN q) os':=by
 have hcon:=fun W'=>AnyG.cmp_Compare_int SwCmp x.1 y.1 W'
 change ∀W',Calls Tryz.prog 156 _ _ _ at hcon
 generalize Lib.compareInt x.1 y.1=r at hcon ⊢
 go_enter Tryz.func148, Tryz.ntmps148
 go_wp2_with (go_at_call 156;refine(hcon _).mono ?_;rintro e w' ⟨rfl,rfl⟩)
 go_ret
 exact⟨rfl,0,_,by rw[alloc_eq_grow,alloc_eq_grow,grow_grow];rfl⟩
theorem against_lays (blk off size:Nat) (w:World):CmpLays Tryz.prog 148 #[] encW 2 (fun x y=>Lib.compareInt x.1 y.1) blk off size w :=
 fun _ _ _ _ x y=>against_any x y _
theorem compareInt_neg (x y:Int×Int):Lib.compareInt x.1 y.1<0↔Ln.wt x<Ln.wt y:=by
 unfold Lib.compareInt Ln.wt;split
 ·rename_i h;simp[h]
 ·split
  ·rename_i h1 h;simp;omega
  ·rename_i h1 h;simp;omega
set_option maxHeartbeats 1000000 in
theorem sortStable_any (blk cap:Nat) (d:Array (Int×Int)) (w:World) (hH:HoldsK encW 2 w blk 0 d) (hblk:blk<w.heap.size) (hsz:d.size<1152921504606846976) :
  Calls Tryz.prog 147 #[.slice (some ⟨blk,0,none⟩) d.size cap,.func (.func 148) #[] #[]] w fun e w' =>
   e=.returned (.tuple #[])/\ ∃d',SWK encW 2 w blk 0 d' w'/\d'.toList=stab Ln.wt d.toList:=by
 have eg:∀args w,(callFunc 148 args).run Tryz.prog w=.ok (.enter 148 args) w:=enters_of Tryz.func148 (by kernel_rfl) rfl;have e169:∀args w,(callFunc 157 args).run Tryz.prog w=.ok (.enter 157 args) w:=enters_of Tryz.func157 (by kernel_rfl) rfl;have R:RowK encW 2 w blk 0 d:=⟨fun _=>rfl,fun x v hv=>by simp[encW] at hv;rcases hv with rfl|rfl<;>rfl,hH,hblk⟩
 have hIns:∀(d1:Array (Int×Int)) (w1:World) (_:d.size=d1.size) (_:SWK encW 2 w blk 0 d1 w1) (A M B:List (Int×Int)) (_:d1.toList=A++(M++B)) (a b:Nat) (_:a=A.length) (_:b=a+M.length),
   Calls Tryz.prog 157 #[.slice (some ⟨blk,0,none⟩) d1.size cap,.int .i64 (a:Int),.int .i64 (b:Int),.func (.func 148) #[] #[]] w1 fun e w' =>
    e=.returned (.tuple #[])/\ ∃d',SWK encW 2 w blk 0 d' w'/\d'.toList=A++(stab Ln.wt M++B):=by
  intro d1 w1 hs S A M B hd a b ha hb;have hl:d1.size=A.length+M.length+B.length:=by rw[<-Array.length_toList,hd];simp;omega
  have h:=AnyQ.insertionSortCmpFunc SwIns 2 Tryz.isAgg180 Tryz.sizeOf180 encW (fun _=>rfl) R.h1 (fun x y=>Lib.compareInt x.1 y.1) 148 #[] blk 0 cap a b d1 w1 eg (against_lays blk 0 d1.size w1) (S.holds hblk hH hs.symm) (S.lt hblk) (by omega) (by omega) (by omega);refine h.mono ?_;rintro e w' ⟨he,n,os,rfl⟩;refine⟨he,_,S.on hblk n _ os ?_,?_⟩
  ·have h2:=insertionSort_list Ln.wt (lt:=ltOf fun x y=>Lib.compareInt x.1 y.1) (fun x y=>decide_eq_decide.2 (compareInt_neg x y)) A M B d1 hd
   rw[ha,hb,ha,<-Array.length_toList,h2,hl];simp[length_stab];omega
  ·rw[hb,ha]
   exact insertionSort_list Ln.wt (lt:=ltOf fun x y=>Lib.compareInt x.1 y.1) (fun x y=>decide_eq_decide.2 (compareInt_neg x y)) A M B d1 hd
 have hcon:=stable_is swLays Ln.wt (fun x y=>Lib.compareInt x.1 y.1) compareInt_neg 148 #[] eg cap (against_lays blk 0 d.size w) R hsz e169 hIns d w rfl (SWK.start hH);have HH:=Lib.hid hcon;clear hIns R hcon hH
 go_enter Tryz.func147, Tryz.ntmps147
 go_wp2_with (go_at_call 155;refine HH.out.mono ?_;rintro e w' ⟨rfl,h⟩)
 go_end0
 exact⟨rfl,h⟩
end Go.Proofs.YtjligbmickfbdaaGreat
namespace Go.Proofs.YtjligbmickfbdaaGreat
open Go.RowKit Go.Lib Go.Sort St
theorem swk_row {α:Type} [Inhabited α] {enc:α->List Value} {k g:Nat} {w w':World} {d:Array α} {cur:Array Value} {t:TypeId} (h:SWK enc k w g 0 d w') (hr:w.heap[g]? =some (.cells cur t (0,0))) :
  w'.heap[g]? =some (.cells (putCells id 0 (flatK enc k d) cur) t (0,0)):=by
 obtain⟨n,os,rfl⟩:=h;have hlt:g<w.heap.size:=(Array.getElem?_eq_some_iff.1 hr).1;unfold sortWorldK putRowK putRow;rw[heap_grow_old _ _ (by simpa[mapBlock,Sort.ahead] using hlt)];simp[mapBlock,Sort.ahead,Array.getElem?_modify,hr]
 rfl
theorem swk_below {α:Type} [Inhabited α] {enc:α->List Value} {k g B:Nat} {w w':World} {d:Array α} (h:SWK enc k w g 0 d w') (hB:B<=g) (hg:g<w.heap.size):RowKit.Below B w w':=by
 obtain⟨n,os,rfl⟩:=h;refine⟨rfl,rfl,rfl,by simp[sortWorldK,putRowK,Sort.ahead],fun j hj=>?_⟩;unfold sortWorldK putRowK putRow;rw[heap_grow_old _ _ (by simp[mapBlock,Sort.ahead];omega)];simp[mapBlock,Sort.ahead,Array.getElem?_modify]
 omega
theorem flat_at (d:Array (Int×Int)) (j:Nat) (h:j<d.size*2):(fl2 d.toList)[j]? =some (flatK encW 2 d)[j]! :=by
 rw[get_flatK encW 2 d j h];have hk:j/2<d.size:=by omega
 have hx:d.toList[j/2]? =some d[j/2]! :=by
  rw[Array.getElem?_toList,getElem!_def];rw[Array.getElem?_eq_getElem hk]
 obtain⟨h1,h2⟩:=fl2_at d.toList (j/2) _ hx;rcases Nat.mod_two_eq_zero_or_one j with e|e
 ·rw[e]
  have ej:j=2*(j/2):=by omega
  conv=>lhs;rw[ej]
  rw[h1];rfl
 ·rw[e]
  have ej:j=2*(j/2)+1:=by omega
  conv=>lhs;rw[ej]
  rw[h2];rfl
theorem own2_sorted {w w':World} {B g n c:Nat} {t:TypeId} {l:List (Int×Int)} {d:Array (Int×Int)} (h:Own2 w B t (.slice (some ⟨g,0,none⟩) n c) l) (S:SWK encW 2 w g 0 d w') (hd:d.size=l.length):Own2 w' B t (.slice (some ⟨g,0,none⟩) n c) d.toList:=by
 obtain⟨h1,h2⟩:=h;unfold Own2;refine⟨by rw[length_fl2],?_⟩;rcases h2 with ⟨hv,_⟩|⟨g',cap,cur,hv,hg,hh,hnc,hcm,hcs,htake⟩
 ·cases hv
 ·simp only[Value.slice.injEq,Option.some.injEq,Addr.mk.injEq,and_true] at hv
  obtain⟨rfl,rfl,rfl⟩:=hv;have hdl:l.length=d.toList.length:=hd.symm.trans (Array.length_toList (xs:=d)).symm;refine .inr ⟨g,c,_,congrArg (fun n=>Value.slice (some ⟨g,0,none⟩) n c) hdl,hg,swk_row S hh,by rw[<-hdl];exact hnc,hcm,by simp[putCells,hcs],?_⟩;refine List.ext_getElem? fun j=>?_
  rw[Array.length_toList];by_cases hj:j<d.size*2
  ·rw[List.getElem?_take,if_pos hj,flat_at d j hj,Array.getElem?_toList]
   have hjc:j<cur.size:=by omega
   simp only[putCells,Array.getElem?_mapIdx,Array.getElem?_eq_getElem hjc,Option.map_some];rw[if_pos ⟨Nat.zero_le _,by simp;omega⟩];rfl
  ·rw[List.getElem?_take,if_neg hj,List.getElem?_eq_none]
   rw[length_fl2,Array.length_toList];omega
theorem own2_holds {w:World} {B g n c:Nat} {t:TypeId} {l:List (Int×Int)} (h:Own2 w B t (.slice (some ⟨g,0,none⟩) n c) l):HoldsK encW 2 w g 0 l.toArray:=by
 have hn:n=l.length:=by
  rcases h.2 with ⟨hv,_⟩|⟨g',cap,cur,hv,_⟩
  ·cases hv
  ·cases hv;rfl
 subst hn;intro j hj;rw[size_flatK] at hj;have hs:l.toArray.size=l.length:=by simp
 rw[Nat.zero_add];have hf:=flat_at l.toArray j hj;refine⟨?_,World.ownsRow.frozenAt h j⟩;have:=World.ownsRow.cells (g:=g) h rfl j _ hf
 rwa [Addr.add_lit,Nat.zero_add] at this
end Go.Proofs.YtjligbmickfbdaaGreat
