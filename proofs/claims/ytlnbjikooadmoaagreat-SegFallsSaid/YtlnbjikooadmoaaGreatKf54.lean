/- SegKeeps: the walk, block by block. SegFalls: the walk. SegFalls: the walk, joined. SegFalls: every row of records, all numbers. An argument that is a slice of records. A [3]int as an argument. Over any program. -/
import Derived.Test.YtlnbjikooadmoaaGreatKf52
import Derived.Test.YtlnbjikooadmoaaGreatKf53
import Derived.Deep.RegionWith
import Derived.Test.YtlnbjikooadmoaaGreatKf49
import Derived.Deep.Slices
import Derived.Deep.Fields
import Derived.ChangeSame
import Derived.Test.YtlnbjikooadmoaaGreatKf01
namespace Go.Proofs.YtlnbjikooadmoaaGreat
namespace Dk
open Go.RowKit Hd Fm Sn Bk Rd Bd
structure Lw (w1:World) (Q:List (List (Int×Int×ByteArray))) (bd b8 F k:Nat) (v:Value) (wr:World):Prop where
 ex:∃(pb:List Pb) (S:Nat->Prop) (D:DS) (b:Nat),pb.map (·.1)=Q.take k/\Good pb/\DiskAt wr S bd D/\One D b (segN 2 1) (hdrB 2 1 F,fileB (hdrB 2 1 F) pb)/\OwnM wr w1.heap.size v (lay (hdrB 2 1 F).size pb)/\(∀j,v.ownBlock=some j-> ¬ S j)/\(∀j,S j->w1.heap.size<=j)/\ ¬ S b8
 below:Below w1.heap.size w1 wr
 box:Blk wr b8 #[.int .i64 2,.int .i64 1,.int .i64 (F:Int)] 33
theorem gr7 (w:World) (b:Nat) (v0 v1 v2 v3 v4 v5 v6:Value):Gr (fun j=>j=b) w (fun j=>j=b) (((((((w.setCell ⟨b,0,none⟩ v0).setCell ⟨b,1,none⟩ v1).setCell ⟨b,2,none⟩ v2).setCell ⟨b,3,none⟩ v3).setCell ⟨b,4,none⟩ v4).setCell ⟨b,5,none⟩ v5).setCell ⟨b,6,none⟩ v6) :=
 ((((((Gr.setCell (S:=fun j=>j=b) rfl 0 v0).trans (Gr.setCell (S:=fun j=>j=b) rfl 1 v1)).trans (Gr.setCell (S:=fun j=>j=b) rfl 2 v2)).trans (Gr.setCell (S:=fun j=>j=b) rfl 3 v3)).trans (Gr.setCell (S:=fun j=>j=b) rfl 4 v4)).trans (Gr.setCell (S:=fun j=>j=b) rfl 5 v5)).trans (Gr.setCell (S:=fun j=>j=b) rfl 6 v6)
theorem pf {Q:List (List (Int×Int×ByteArray))} {l:List (Int×Int×ByteArray)} {F k:Nat} {t:Int} {s:ByteArray} {pb:List Pb} (hfl:Q.flatten=l) (hrow:rowE none l=0) (hx0:l[0]? =some ((F:Int),t,s)) (hl2:l.length<=200) (h1:pb.map (·.1)=Q.take k) (h2:Good pb) (hF:1<=F/\F<=1000000000) :
  rowE none (fls pb)=0/\(pb≠ []->(at3 (fls pb) 0).1=(F:Int))/\(fls pb).length<=200/\pb.length<=200/\tot pb<=409400/\(hdrB 2 1 F).size<=36:=by
 have hsp:l=fls pb++(Q.drop k).flatten:=by
  unfold fls;rw[h1,<-hfl,<-List.flatten_append,List.take_append_drop]
 obtain⟨t1,t2⟩:=tot_le pb h2;have hle:(fls pb).length<=l.length:=by rw[hsp,List.length_append];omega
 have hbs:=hb_size 2 1 F (by omega);have hsz:(hdrB 2 1 F).size=(hb 2 1 F).size+9:=size_frB 1 (hb 2 1 F);refine⟨row_pre (fls pb) none (Q.drop k).flatten (by rw[<-hsp];exact hrow),fun hne=>?_,by omega,by omega,by omega,by omega⟩;have hf:fls pb≠ []:=by
  intro e;rcases pb with _|⟨x,l'⟩
  ·exact hne rfl
  ·have:=(h2 x (List.mem_cons_self ..)).2.1
   unfold fls at e;simp only[List.map_cons,List.flatten_cons,List.append_eq_nil_iff] at e;exact this e.1
 rw[<-at3_pre (B:=(Q.drop k).flatten) hf,<-hsp];have:=at3_get l 0 (by rcases l with _|⟨x,l⟩;simp at hx0;simp);rw[hx0] at this;exact(congrArg (fun x:Int×Int×ByteArray=>x.1) (Option.some.inj this)).symm
def OwnStr (w:World) (B:Nat) (v:Value) (V:List ByteArray):Prop:=w.ownsRow B 9 1 v V.length (V.map Value.string)
structure Bo (w8:World) (Q:List (List (Int×Int×ByteArray))) (k:Nat) (v:Value) (wr:World):Prop where
 ex:∃pb':List Pb,pb'.map (·.1)=Q.take k/\Good pb'/\OwnStr wr w8.heap.size v (pb'.map (·.2))
 below:Below w8.heap.size w8 wr
theorem Bo.ext {w8 wr wx:World} {Q:List (List (Int×Int×ByteArray))} {k:Nat} {v:Value} (h:Bo w8 Q k v wr) (hb:Below wr.heap.size wr wx):Bo w8 Q k v wx:=by
 obtain⟨⟨pb',h1,h2,h3⟩,h4⟩:=h;exact⟨⟨pb',h1,h2,own_below h3 hb (Nat.le_refl _)⟩,h4.trans (hb.mono h4.size)⟩
theorem add_zero_addr (a:Addr):a.add 0=a:=by cases a;rfl
theorem pts_norm {l:List (Int×Int×ByteArray)} {m:Int} {w:World} {v:Value} {w':World} (h:PtsAns l m w v w'):∃(A:Option Addr) (n c:Nat),v=.slice A n c/\(n=0∨ ∃cs Q,0<n/\n<=200/\OwnR w' w.heap.size (.slice A n c) cs/\cs.length=n/\Q.length=n/\Pts w cs Q/\Q.flatten=l/\(∀R∈Q,jE R=0/\R≠ [])/\l.length<=200/\rowE none l=0):=by
 rcases h with ⟨A,c,rfl⟩|⟨cs,Q,h1,h2,h3,h4,h5,h6,h7⟩
 ·exact⟨A,0,c,rfl,.inl rfl⟩
 ·obtain⟨A,c,rfl,-,-⟩:=own_slice h1
  have hq:0<Q.length:=List.length_pos_iff.2 h3;have hle:Q.length<=Q.flatten.length:=by
   clear h2 h3 h4 hq
   induction Q with
   |nil=>simp
   |cons R Q ih =>
    have:=ih fun z hz=>h5 z (List.mem_cons_of_mem _ hz)
    have h0:0<R.length:=List.length_pos_iff.2 (h5 R (List.mem_cons_self ..)).2;rw[List.flatten_cons,List.length_append,List.length_cons];omega
  rw[h4] at hle;exact⟨A,cs.length,c,rfl,.inr ⟨cs,Q,by rw[h2.1];exact hq,by rw[h2.1];omega,h1,rfl,h2.1.symm,h2,h4,h5,h6,h7⟩⟩
end Dk
end Go.Proofs.YtlnbjikooadmoaaGreat
namespace Go.Proofs.YtlnbjikooadmoaaGreat
namespace Dk
open Go.RowKit Hd Fm Sn Bk Rd Bd
def safeB (hd:ByteArray) (n:Nat) (pb:List Pb) (k:Nat):ByteArray:=if k<=n then hd else fileB hd (pb.take n)
theorem safe_lo {hd:ByteArray} {n:Nat} {pb:List Pb} {k:Nat} (h:k<=n):safeB hd n pb k=hd:=if_pos h
theorem safe_hi {hd:ByteArray} {n:Nat} {pb:List Pb} {k:Nat} (h:n<k):safeB hd n pb k=fileB hd (pb.take n):=if_neg (by omega)
structure Lf (w1:World) (Q:List (List (Int×Int×ByteArray))) (bd b8 F n1 k:Nat) (v:Value) (wr:World):Prop where
 ex:∃(pb:List Pb) (S:Nat->Prop) (D:DS) (b:Nat),pb.map (·.1)=Q.take k/\Good pb/\DiskAt wr S bd D/\Of1 D b (segN 2 1) (safeB (hdrB 2 1 F) n1 pb k,fileB (hdrB 2 1 F) pb)/\OwnM wr w1.heap.size v (lay (hdrB 2 1 F).size pb)/\(∀j,v.ownBlock=some j-> ¬ S j)/\(∀j,S j->w1.heap.size<=j)/\ ¬ S b8
 below:Below w1.heap.size w1 wr
 box:Blk wr b8 #[.int .i64 2,.int .i64 1,.int .i64 (F:Int)] 33
theorem lf_start {w1 w2 w3 w4 w5:World} {Q:List (List (Int×Int×ByteArray))} {bd b8 F b n1:Nat} {S2 S4 S5:Nat->Prop} (hg:Gr (fun _=>False) w1 S2 w2) (h3:w3=w2.alloc (.cells #[.int .i64 2,.int .i64 1,.int .i64 (F:Int)] 33)) (h8:b8=w2.heap.size) (hd2:DiskAt w2 S2 bd (newD 1000000))
  (hg4:Gr S2 w3 S4 w4) (hd5:DiskAt w5 S5 bd (opS true settleD (d3 (segN 2 1) (hdrB 2 1 F) b (newD 1000000)))) (hg5:Gr S4 w4 S5 w5):Lf w1 Q bd b8 F n1 0 (.slice none 0 0) w5:=by
 subst h3 h8;have hg':=hg4.trans hg5;have hB:=Blk.new w2 #[.int .i64 2,.int .i64 1,.int .i64 (F:Int)] 33;have n8: ¬ S2 w2.heap.size:=hd2.gt (Nat.le_refl _);have g2:∀j,S2 j->w1.heap.size<=j:=fun j hj=>(hg.sub j hj).elim False.elim id
 have e3:=ext_alloc w2 (.cells #[.int .i64 2,.int .i64 1,.int .i64 (F:Int)] 33);have b12:Below w1.heap.size w1 w2:=hg.below (Nat.le_refl _) (fun k hk=>hk.elim);have b13:=b12.trans (e3.mono b12.size);refine⟨⟨[],S5,_,b,rfl,fun x hx=>(by cases hx),hd5,?_,ownM_nil _ _,fun j hj=>(by cases hj),hg'.ge b13.size g2,hg'.out hB.lt n8⟩,b13.trans (hg'.below b13.size g2),hg'.blk hB n8⟩;rw[safe_lo (Nat.zero_le _),fileB_nil];exact of1_new _ _ _
theorem lf_step {w1 wr wx w4 w5 w6:World} {Q:List (List (Int×Int×ByteArray))} {bd b8 F k n1 b g n c b13:Nat} {v:Value} {S Sx S4:Nat->Prop} {D:DS} {pb:List Pb} {R:List (Int×Int×ByteArray)} {B a:ByteArray}
  (h1:pb.map (·.1)=Q.take k) (h2:Good pb) (h4:Of1 D b (segN 2 1) (a,fileB (hdrB 2 1 F) pb)) (ha:safeB (hdrB 2 1 F) n1 (pb++[(R,B)]) (k+1)=a) (h5:OwnM wr w1.heap.size v (lay (hdrB 2 1 F).size pb)) (h6:∀j,v.ownBlock=some j-> ¬ S j) (h7:∀j,S j->w1.heap.size<=j) (h8: ¬ S b8)
  (hb:Below w1.heap.size w1 wr) (hbx:Blk wr b8 #[.int .i64 2,.int .i64 1,.int .i64 (F:Int)] 33) (hQ:Q[k]? =some R) (hj:jE R=0/\R≠ []) (hB:BlkOf R B) (hx:Gr S wr Sx wx)
  (hd:DiskAt w4 S4 bd (putD b (a,fileB (hdrB 2 1 F) pb) (frB 2 B) D)) (hg:Gr Sx wx S4 w4) (h13:Gr (fun j=>j=b13) w4 (fun j=>j=b13) w5) (hr13:wr.heap.size<=b13) (n13: ¬ S4 b13)
  (ho:OwnM w6 w1.heap.size (.slice (some ⟨g,0,none⟩) n c) (lay (hdrB 2 1 F).size pb++[mt1 ((hdrB 2 1 F).size+tot pb) (R,B)])) (hgr:w5.grownBy w6 v.ownBlock) (hat:v.ownBlock=some g∨w5.heap.size<=g) :
  Lf w1 Q bd b8 F n1 (k+1) (.slice (some ⟨g,0,none⟩) n c) w6:=by
 have hg0:=hx.trans hg;have hv:∀j,v.ownBlock=some j->j<wr.heap.size:=fun j e=>(World.ownsRow.lt h5 j e).2
 have hv4:∀j,v.ownBlock=some j-> ¬ S4 j:=fun j e=>hg0.out (hv j e) (h6 j e)
 have hk5:DiskAt w5 S4 bd (putD b (a,fileB (hdrB 2 1 F) pb) (frB 2 B) D):=hd.kept h13.size fun j hj'=>h13.block j (hd.lt hj') (by rintro rfl;exact n13 hj')
 have hs4:∀j,S4 j->w1.heap.size<=j:=hg0.ge hb.size h7;have hb8:b8<wr.heap.size:=hbx.lt;have hx8:=h13.blk (hg0.blk hbx h8) (by show b8≠b13;omega);refine⟨⟨pb++[(R,B)],S4,_,b,?_,?_,hk5.kept hgr.size fun j hj'=>hgr.block j (hk5.lt hj') fun e=>hv4 j e.symm hj',?_,?_,?_,hs4,hg0.out hb8 h8⟩,?_,?_⟩
 ·rw[List.map_append,h1,take_next hQ];rfl
 ·intro z hz
  rcases List.mem_append.1 hz with hz|hz
  ·exact h2 z hz
  ·rw[List.mem_singleton] at hz;subst hz;exact⟨hj.1,hj.2,hB⟩
 ·have:=h4.put (frB 2 B)
  rw[fileB_snoc,ha];exact this
 ·rw[lay_snoc];exact ho
 ·intro j hj'
  simp only[Value.ownBlock,Option.some.injEq] at hj';subst hj';rcases hat with e|e
  ·exact hv4 _ e
  ·intro hs
   have:=hk5.lt hs;omega
 ·have hb4:Below w1.heap.size w1 w4:=hb.trans (hg0.below hb.size h7)
  have hb5:=hb4.trans (h13.below hb4.size (by rintro j rfl;exact Nat.le_trans hb.size hr13));exact hb5.grown hgr hb5.size fun j e=>(World.ownsRow.lt h5 j e).1
 ·refine hx8.grown hgr fun e=>?_
  rcases h5.2 with ⟨e1,-⟩|⟨g',cap,cur,e1,-,q2,-⟩
  ·rw[e1] at e;cases e
  ·rw[e1] at e
   have:g'=b8:=by simpa[Value.ownBlock] using e
   subst this;unfold Blk at hbx;rw[hbx] at q2;simp at q2
theorem safe_next {hd:ByteArray} {n k:Nat} {pb:List Pb} {x:Pb} (hl:pb.length=k) (h:k≠n):safeB hd n (pb++[x]) (k+1)=safeB hd n pb k:=by
 rcases Nat.lt_or_gt_of_ne h with h|h
 ·rw[safe_lo (by omega),safe_lo (by omega)]
 ·rw[safe_hi (by omega),safe_hi h,List.take_append_of_le_length (by omega)]
theorem safe_sync {hd:ByteArray} {n:Nat} {pb:List Pb} {x:Pb} (hl:pb.length=n):safeB hd n (pb++[x]) (n+1)=fileB hd pb:=by
 rw[safe_hi (by omega),List.take_append_of_le_length (by omega),List.take_of_length_le (by omega)]
section
variable {w w':World} {S:Nat->Prop} {bd b F n1:Nat} {D:DS} {pb:List Pb}
theorem seg_size:(segN 2 1).size<=maxLen:=by decide
theorem Of1.off (h:Of1 D b (segN 2 1) (fileB (hdrB 2 1 F) (pb.take n1),fileB (hdrB 2 1 F) pb)):srt (offD D).safe=[segN 2 1]/\ ∀x∈(offD D).safe,x.1.size<=maxLen:=by
 have e:(offD D).safe=[(segN 2 1,b)]:=h.safe;rw[e];refine⟨srt_one _ _,fun x hx=>?_⟩;rw[List.mem_singleton] at hx;subst hx;exact seg_size
theorem falls_boot (h:DiskAt w S bd (offD D)) (ho:Of1 D b (segN 2 1) (fileB (hdrB 2 1 F) (pb.take n1),fileB (hdrB 2 1 F) pb)) (A:Option Addr) (n c:Nat) (cut dir:Int) (hcut:Rd w w.heap.size 1 A n ([cut].map (Value.int .i64))) (hn:n<=1000000) :
  Calls Tryz.prog 22 #[.pointer (some ⟨bd,0,none⟩),.agg #[.int .i64 dir,.slice A n c,.slice none 0 0]] w fun e w'=>e=.returned (.int .i64 0)/\ ∃(c b':Nat) (S':Nat->Prop) (D':DS),(fileB (hdrB 2 1 F) (pb.take n1)).size<=c/\c<=(fileB (hdrB 2 1 F) pb).size/\DiskAt w' S' bd D'/\Of1 D' b' (segN 2 1) ((fileB (hdrB 2 1 F) pb).extract 0 c,(fileB (hdrB 2 1 F) pb).extract 0 c)/\Gr S w S' w':=by
 obtain⟨h1,h2⟩:=ho.off;have hpre:=fileB_pre (hdrB 2 1 F) (pb.take n1) (pb.drop n1);rw[List.take_append_drop] at hpre;refine(boot_any h h1 ho.chg A n c [cut] dir hcut hn h2).mono ?_;rintro e w' ⟨rfl,pairs,k,L,fl,S',e1,e2,e3,e4⟩;obtain⟨b',X,hX,hc⟩:=of1_boot ho e1 e2;have hz:(fileB (hdrB 2 1 F) (pb.take n1)).size<=(fileB (hdrB 2 1 F) pb).size:=by
  have:=congrArg ByteArray.size hpre;rw[ByteArray.size_extract] at this;omega
 rcases hc with ⟨q1,rfl⟩|⟨q1,rfl⟩
 ·refine⟨rfl,_,b',S',_,hz,Nat.le_refl _,e3,?_,e4⟩
  rw[extract_all _ _ rfl];exact hX
 ·obtain⟨c',g1,g2,g3⟩:=left_pre (nthI [cut] 0) hpre
  refine⟨rfl,c',b',S',_,g1,g2,e3,?_,e4⟩;rw[<-g3];exact hX
theorem falls_trim {c:Nat} (h:DiskAt w S bd D) (ho:Of1 D b (segN 2 1) ((fileB (hdrB 2 1 F) pb).extract 0 c,(fileB (hdrB 2 1 F) pb).extract 0 c)) (hF:1<=F/\F<=1000000000) (hg:Good pb) (hr:rowE none (fls pb)=0) (hf:pb≠ []->(at3 (fls pb) 0).1=(F:Int)) (hl:pb.length<=1000) (ht:(hdrB 2 1 F).size+tot pb<=1000000)
  (hn:n1<=pb.length) (h1:(fileB (hdrB 2 1 F) (pb.take n1)).size<=c) (h2:c<=(fileB (hdrB 2 1 F) pb).size) :
  Calls Tryz.prog 23 #[.pointer (some ⟨bd,0,none⟩),.agg #[.int .i64 2,.int .i64 1,.int .i64 (F:Int)]] w fun e w'=>∃(A':Option Addr) (q c':Nat) (T:ByteArray),e=.returned (.tuple #[.slice A' q c',.int .i64 (T.size:Int),.int .i64 0])/\n1<=q/\q<=pb.length/\Rd w' w'.heap.size 7 A' q (fl7 ((lay (hdrB 2 1 F).size pb).take q)) /\
   ∃(S':Nat->Prop) (D':DS),DiskAt w' S' bd D'/\Of1 D' b (segN 2 1) (T,T)/\Gr S w S' w':=by
 obtain⟨q,E,t1,t2,t3,t4⟩:=falls_tl (i:=2) (g:=1) (by omega) hg hr hf hl ht hn h1 h2;have hz:=size_cut h2;have hq:((lay (hdrB 2 1 F).size pb).take q).length=q:=by rw[List.length_take,length_lay];omega
 have hok:okH 2 1 (F:Int)=true:=by simp only[okH,decide_eq_true_eq];omega
 have hnum:∀{A':Option Addr} {n' c':Nat} {w':World},OwnM w' w.heap.size (.slice A' n' c') ((lay (hdrB 2 1 F).size pb).take q)->n'=q/\Rd w' w'.heap.size 7 A' q (fl7 ((lay (hdrB 2 1 F).size pb).take q)):=by
  intro A' n' c' w' ho;obtain⟨A1,c1,e1,-,-,hr⟩:=ho.rd;rw[hq] at e1 hr;cases e1
  exact⟨rfl,hr⟩
 by_cases hE:E<c
 ·refine(Trim_cut (i:=2) (g:=1) (f:=(F:Int)) h ho.one.calm hok ho.one.lk ho.one.fl t1 (by dsimp only;rw[hz];exact hE)).mono ?_
  rintro e w' ⟨A',n',c',rfl,hown,S',q1,q2,-⟩;obtain⟨rfl,hrd⟩:=hnum hown;have hT:(((fileB (hdrB 2 1 F) pb).extract 0 c).extract 0 E).size=E:=size_cut (by rw[hz];omega);exact⟨A',_,c',((fileB (hdrB 2 1 F) pb).extract 0 c).extract 0 E,by rw[hT],t2,t3,hrd,S',_,q1,ho.trim E,q2⟩
 ·obtain rfl:E=c:=by omega
  refine(Trim_keep (i:=2) (g:=1) (f:=(F:Int)) h ho.one.calm hok ho.one.lk ho.one.fl t1 (by dsimp only;rw[hz];omega)).mono ?_;rintro e w' ⟨A',n',c',rfl,hown,hb⟩;obtain⟨rfl,hrd⟩:=hnum hown;exact⟨A',_,c',_,by rw[hz],t2,t3,hrd,S,D,h.ext hb,ho,Gr.of_below hb⟩
theorem falls_read {T:ByteArray} (h:DiskAt w S bd D) (ho:Of1 D b (segN 2 1) (T,T)) (hF:1<=F/\F<=1000000000):Calls Tryz.prog 12 #[.pointer (some ⟨bd,0,none⟩),.agg #[.int .i64 2,.int .i64 1,.int .i64 (F:Int)]] w fun e w'=>e=.returned (.tuple #[.string T,.int .i64 0])/\Below w.heap.size w w':=by
 have:=Read_go (i:=2) (g:=1) (f:=(F:Int)) h (by simp only[okH,decide_eq_true_eq];omega);rw[ho.one.read] at this;exact this
theorem falls_do {T:ByteArray} (h:DiskAt w S bd D) (ho:Of1 D b (segN 2 1) (T,T)) :
  Calls Tryz.prog 24 #[.pointer (some ⟨bd,0,none⟩),.agg #[.int .i64 9,.int .i64 0,.string ⟨#[]⟩,.string ⟨#[]⟩,.int .i64 0,.slice none 0 0,.slice none 0 0]] w fun e w'=>e=.returned (.int .i64 0)/\ ∃S',Gr S w S' w' :=
 do_boot h ho.chg fun x hx=>by
  rw[ho.safe,List.mem_singleton] at hx;subst hx;exact seg_size
end
end Dk
end Go.Proofs.YtlnbjikooadmoaaGreat
namespace Go.Proofs.YtlnbjikooadmoaaGreat
namespace Dk
open Go.RowKit Hd Fm Sn Bk Rd Bd
theorem fl7_take:∀(l:List Mt) (q:Nat),fl7 (l.take q)=(fl7 l).take (q*7)
 | [],q=>by simp[fl7]
 |m::l,0=>by simp[fl7]
 |m::l,q+1=>by rw[List.take_succ_cons,fl7_cons,fl7_cons,fl7_take l q,Nat.succ_mul];rfl
set_option maxHeartbeats 12800000 in
set_option maxRecDepth 100000 in
theorem falls_any (HAW:∀w,Calls Tryz.prog 6 #[] w fun e w'=>e=.returned (.bool true)/\Below w.heap.size w w') (A:Option Addr) (n c:Nat) (l:List (Int×Int×ByteArray)) (m0 m1 m2 ct:Int) (w:World) (hrd:Rd w w.heap.size 3 A n (fl3 l)) (hnc:n<=c) (hcm:c<=maxLen) (hm:m0<=9223372036854775807) :
  Calls Tryz.prog 4 #[.slice A n c,.agg #[.int .i64 m0,.int .i64 m1,.int .i64 m2],.int .i64 ct] w fun e w'=>e=.returned (.bool true)/\Below w.heap.size w w':=by
 have mixed:Tryz.prog.follows .mixedOrders=true:=by kernel_rfl
 have hln:=rd3_len hrd;have HBX:=Lib.hid (ext_alloc w (.cells #[.int .i64 m0,.int .i64 m1,.int .i64 m2] 56));have HBB:=Lib.hid (Blk.new w #[.int .i64 m0,.int .i64 m1,.int .i64 m2] 56);have k00:=HBB.out.cell 0 (v:=.int .i64 m0) rfl;have HP:=Lib.hid (parts_any A n c l m0 (w.alloc (.cells #[.int .i64 m0,.int .i64 m1,.int .i64 m2] 56)) (hrd.ext HBX.out) hnc hcm hm);have HA:=Lib.hid HAW;by_cases hcase:0<n/\rowE none l=0
 ·obtain⟨hn0,hr0⟩:=hcase
  obtain⟨ad,q0,t0,s0,rfl,hadb,hx0,hc0,-,-⟩:=rec3 hrd hn0;have hq:=(ok1_iff _).1 (row_seq0 l hr0 0 _ hx0).2.2.1;obtain⟨F,rfl⟩:∃F:Nat,q0=F:=⟨q0.toNat,by omega⟩
  have hF:1<=F/\F<=1000000000:=by have:=hq.1;have:=hq.2.1;omega
  rw[Nat.zero_mul,add_zero_addr] at hc0;have HC0:=Lib.hid (fun wx (hb:Below w.heap.size w wx)=>(show wx.cell? ad=some (.int .i64 (F:Int)) from(hb.cell (p:=ad) hadb).trans hc0));have hn0':(0:Int)<(n:Int):=by omega
  have HN:=Lib.hid (fun w=>new_ok 1000000 w (by omega) (by omega));have HX:=Lib.hid (And.intro hln hx0);have HF:=Lib.hid hF;have HCR:=Lib.hid (show ∀(w3:World) (bd:Nat) (S2:Nat->Prop),DiskAt w3 S2 bd (newD 1000000)->Calls Tryz.prog 8 #[.pointer (some ⟨bd,0,none⟩),.agg #[.int .i64 2,.int .i64 1,.int .i64 (F:Int)]] (w3.alloc (.cells #[.int .i64 2,.int .i64 1,.int .i64 (F:Int)] 33)) fun e w'=>e=.returned (.int .i64 0)/\ ∃b S4,DiskAt w' S4 bd (d3 (segN 2 1) (hdrB 2 1 F) b (newD 1000000))/\Gr S2 (w3.alloc (.cells #[.int .i64 2,.int .i64 1,.int .i64 (F:Int)] 33)) S4 w' from by
   intro w3 bd S2 hd;refine(Create_go (i:=2) (g:=1) (f:=F) (hd.ext (ext_alloc w3 _)) ⟨rfl,rfl⟩ (by omega) rfl (by show 0<200;omega) (by show 0<=1000000;omega) (by show(36:Int)+((0:Nat):Int)<=1000000;omega)).mono ?_;rintro e w' ⟨rfl,b,S',-,q1,q2⟩;exact⟨rfl,b,S',q1,q2⟩)
  have HDS:=Lib.hid (show ∀(wx:World) (bd b:Nat) (S4:Nat->Prop),DiskAt wx S4 bd (d3 (segN 2 1) (hdrB 2 1 F) b (newD 1000000))->Calls Tryz.prog 19 #[.pointer (some ⟨bd,0,none⟩)] wx fun e w'=>e=.returned (.int .i64 0)/\ ∃S5,DiskAt w' S5 bd (opS true settleD (d3 (segN 2 1) (hdrB 2 1 F) b (newD 1000000)))/\Gr S4 wx S5 w' from fun wx bd b S4 hd=>by
   have hcl:=(one_new (segN 2 1) (hdrB 2 1 F) b).calm;have:=dirsync_go hd hcl.off;rw[hcl.e] at this;exact this)
  clear hrd hnc hcm hm HAW hln hc0 hx0 hr0 hq hF;by_cases hm1:0<=m1
  ·obtain⟨N1,rfl⟩:∃N1:Nat,m1=N1:=⟨m1.toNat,by omega⟩
   have hm1': ¬ (N1:Int)<0:=by omega
   clear hm1
   go_enter Tryz.func4, Tryz.ntmps4
   go_upto_region 2 with (first
    |(go_at_call 5;refine HP.out.mono ?_;rintro e1 w1 ⟨v1,rfl,hpa,hb1⟩;have HB1:=Lib.hid (HBX.out.trans (hb1.mono HBX.out.size));have HBB1:=Lib.hid (HBB.out.ext hb1);have HB01:=Lib.hid hb1;clear hb1;obtain⟨A1,n1,c1,rfl,hpn⟩:=pts_norm hpa;have HPA:=Lib.hid hpn;clear hpa hpn))
   have kb1:=HBB1.out.cell 1 (v:=.int .i64 (N1:Int)) rfl;rcases HPA.out with rfl|⟨cs,Q,hn1,hn2,hpa⟩
   ·go_wp2_with (go_at_call 6;refine(HA.out _).mono ?_;rintro e2 w2 ⟨rfl,hb2⟩)
    go_ret
    exact⟨rfl,HB1.out.trans (hb2.mono HB1.out.size)⟩
   ·have HPA2:=Lib.hid hpa
    clear HPA hpa;have hn1':((n1:Int)==0)=false:=by rw[beq_eq_false_iff_ne];omega
    by_cases hNn:N1<=n1
    ·have hNn': ¬ (N1:Int)>(n1:Int):=by omega
     go_wp2_with (first
      |(go_at_call 7;refine(HN.out _).mono ?_;rintro e3 w3 ⟨bd,rfl,S2,hd2,hg2⟩;have HD2:=Lib.hid (And.intro hd2 hg2);have k0:=HC0.out w3 (HB1.out.trans ((hg2.below (Nat.le_refl _) (fun _ h=>h.elim)).mono HB1.out.size));clear hd2 hg2)
      |(go_at_call 8;refine(HCR.out w3 bd S2 HD2.out.1).mono ?_;rintro e4 w4 ⟨rfl,b,S4,hd4,hg4⟩;have HD4:=Lib.hid (And.intro hd4 hg4);clear hd4 hg4 k0)
      |(go_at_call 19;refine(HDS.out w4 bd b S4 HD4.out.1).mono ?_;rintro e5 w5 ⟨rfl,S5,hd5,hg5⟩;have HL5:Aside (Lf w1 Q bd w3.heap.size F N1 0 (.slice none 0 0) w5):=lf_start HD2.out.2 rfl rfl HD2.out.1 HD4.out.2 hd5 hg5;clear hd5 hg5))
     clear HP HN HCR HD2 HDS HD4 kb1 k00;have HKB:=Lib.hid (show ∀wx,Below w1.heap.size w1 wx->wx.cell? ⟨w.heap.size,1,none⟩=some (.int .i64 (N1:Int))/\wx.cell? ⟨w.heap.size,2,none⟩=some (.int .i64 m2) from fun wx hb=>⟨(HBB1.out.ext hb).cell 1 rfl,(HBB1.out.ext hb).cell 2 rfl⟩);go_loopg [11,12] n1 (fun kx s11 s12 wr=>∃(k:Nat),s12=.int .i64 (k:Int)/\k<=n1/\n1-k<=kx/\Aside (Lf w1 Q bd w3.heap.size F N1 k s11 wr))
     case atStart=>exact⟨0,rfl,by omega,by omega,HL5⟩
     case round =>
      clear HL5;obtain⟨k,rfl,hk,hkx,H⟩:=hrel;by_cases hlt:k<n1
      ·obtain⟨⟨pb,S,D,b,h1,h2,h3,h4,h5,h6,h7,h8⟩,hbw,hbx⟩:=H.out
       obtain⟨q1,q2,q3,q4,q5,q6,q7,q8⟩:=HPA2.out;obtain⟨f1,f2,f3,f4,f5,f6⟩:=pf q5 q8 HX.out.2 q7 h1 h2 HF.out;have hpl:pb.length=k:=by
        have:=congrArg List.length h1;rw[List.length_map,List.length_take] at this;omega
       have hok:=okBl_lay (hd:=hdrB 2 1 F) h2 f1 f2 (by omega) (by omega);obtain⟨A9,c9,rfl,-,-⟩:=own_slice h5;have hrd9:=Rd.of_own h5;have hl9:(lay (hdrB 2 1 F).size pb).length=pb.length:=length_lay _ _;have HEND:=Lib.hid (fun(wx:World) (hr:Rd wx wx.heap.size 7 A9 (lay (hdrB 2 1 F).size pb).length (fl7 (lay (hdrB 2 1 F).size pb)))=>End_ok A9 _ c9 2 1 F _ wx (by have:=HF.out;omega) hr (by omega) hok);rw[endM_lay] at HEND;have q1':w1.ownsRow (w.alloc (.cells #[.int .i64 m0,.int .i64 (N1:Int),.int .i64 m2] 56)).heap.size 22 1 (.slice A1 n1 c1) n1 cs:=by
        have:=q1;unfold OwnR at this
        rwa [q2] at this
       obtain⟨adp,u,rfl,hadp,hcs,hcell⟩:=(Rd.of_own q1').at1 hlt;obtain⟨R,hR⟩:∃R,Q[k]? =some R:=⟨Q[k]'(by omega),List.getElem?_eq_getElem (by omega)⟩
       obtain⟨AR,nR,cR,hcR,hrdR,hnR⟩:=q4.2 k R hR;obtain rfl:u=.slice AR nR cR:=Option.some.inj (hcs.symm.trans hcR);have hjR:=q6 R (List.mem_of_getElem? hR);have hjb:=joinB_jE hjR.1;have hRl:R.length<=200:=by
        have:=(List.sublist_flatten_of_mem (List.mem_of_getElem? hR)).length_le;rw[q5] at this;omega
       have HAR:=Lib.hid (show ∀wx,Below w1.heap.size w1 wx->Rd wx wx.heap.size 3 AR nR (fl3 R) from fun wx hx=>by
        have hb0:Below (w.alloc (.cells #[.int .i64 m0,.int .i64 (N1:Int),.int .i64 m2] 56)).heap.size (w.alloc (.cells #[.int .i64 m0,.int .i64 (N1:Int),.int .i64 m2] 56)) wx:=HB01.out.trans (hx.mono HB01.out.size);exact(hrdR.below hb0).more hb0.size)
       have kb:=(HKB.out wr hbw).1;have HKH:=Lib.hid hbx;have k0:=hbx.cell 0 (v:=.int .i64 2) rfl;have k1:=hbx.cell 1 (v:=.int .i64 1) rfl;have k2:=hbx.cell 2 (v:=.int .i64 (F:Int)) rfl;have HH4:=Lib.hid (And.intro h3 h4);have hokF:okH 2 1 (F:Int)=true:=by simp only[okH,decide_eq_true_eq];have:=HF.out;omega
       go_upto_region 12 with (fail)
       go_cut [83] from 74 to 82 (fun s83 wy=>s83=.bool false/\ ∃(wx:World) (Sx:Nat->Prop) (D':DS) (a:ByteArray),wx=wy/\Aside (Gr S wr Sx wx/\DiskAt wx Sx bd D'/\Of1 D' b (segN 2 1) (a,fileB (hdrB 2 1 F) pb)/\ ∀x,safeB (hdrB 2 1 F) N1 (pb++[x]) (k+1)=a))
       case first =>
        by_cases hkN:k=N1
        ·have hkb:((k:Int)==(N1:Int))=true:=by rw[beq_iff_eq];omega
         have HSY:=Lib.hid (Sync_go (i:=2) (g:=1) (f:=(F:Int)) h3 hokF h4.one.calm.off h4.one.lk h4.one.fl);rw[h4.one.calm.e] at HSY;have HNXT:=Lib.hid (show ∀x,safeB (hdrB 2 1 F) N1 (pb++[x]) (k+1)=fileB (hdrB 2 1 F) pb from fun x=>by rw[hkN];exact safe_sync (hpl.trans hkN));clear h1 h2 h3 h4 h5 h6 h7 h8 hbw hbx q1 q1' q2 q3 q4 q5 q6 q7 q8 f1 f2 f3 f4 f5 f6 hok hrd9 hl9 hcs hcell hR hcR hrdR hnR hjR hjb hRl hpl hadp hkN;go_wp2_with (go_at_call 20;refine HSY.out.mono ?_;rintro e6 w6 ⟨rfl,S6,q1,q2⟩;have HD6:=Lib.hid (And.intro q1 q2);clear q1 q2)
         go_meet
         case rel=>exact⟨rfl,_,S6,_,_,rfl,HD6.out.2,HD6.out.1,HH4.out.2.sync',HNXT.out⟩
        ·have hkb:((k:Int)==(N1:Int))=false:=by rw[beq_eq_false_iff_ne];omega
         have HNXT:=Lib.hid (show ∀x,safeB (hdrB 2 1 F) N1 (pb++[x]) (k+1)=safeB (hdrB 2 1 F) N1 pb k from fun x=>safe_next hpl hkN);clear h1 h2 h3 h4 h5 h6 h7 h8 hbw hbx q1 q1' q2 q3 q4 q5 q6 q7 q8 f1 f2 f3 f4 f5 f6 hok hrd9 hl9 hcs hcell hR hcR hrdR hnR hjR hjb hRl hpl hadp hkN;go_wp2_with fail
         go_meet
         case rel=>exact⟨rfl,_,S,D,_,rfl,Gr.refl _ _,HH4.out.1,HH4.out.2,HNXT.out⟩
       case rest =>
        obtain⟨rfl,wx,Sx,D',a,rfl,hSX⟩:=hcut;have HSX:=Lib.hid hSX.out;clear hSX kb k0 k1 k2;have hgx:=HSX.out.1;have hbx':Below w1.heap.size w1 wx:=hbw.trans (hgx.below hbw.size h7);have hrx:Rd wx wx.heap.size 7 A9 (lay (hdrB 2 1 F).size pb).length (fl7 (lay (hdrB 2 1 F).size pb)):=Rd.of_own (own_block h5 fun j e=>hgx.block j (World.ownsRow.lt h5 j e).2 (h6 j e));have HEN:=Lib.hid (HEND.out wx hrx);have hk8:=hgx.blk hbx h8;have HADD:=Lib.hid (show ∀wy,Below wx.heap.size wx wy->Calls Tryz.prog 10 #[.pointer (some ⟨bd,0,none⟩),.agg #[.int .i64 2,.int .i64 1,.int .i64 (F:Int)],.int .i64 (((hdrB 2 1 F).size+tot pb:Nat):Int),.slice AR nR cR] wy fun e w' =>
          ∃(mm:Mt) (B:ByteArray) (S4:Nat->Prop),e=.returned (.tuple #[.agg #[.int .i64 (mm.a:Int),.int .i64 (mm.s:Int),.int .i64 (mm.r:Int),.int .i64 (mm.c:Int),.int .i64 (mm.f:Int),.int .i64 (mm.e:Int),.int .i64 (mm.l:Int)],.int .i64 0])/\mm=mt1 ((hdrB 2 1 F).size+tot pb) (R,B)/\BlkOf R B /\
           DiskAt w' S4 bd (putD b (a,fileB (hdrB 2 1 F) pb) (frB 2 B) D')/\Gr Sx wy S4 w' from by
         intro wy hy;obtain⟨-,z3,z4,-⟩:=HSX.out;refine(Add_go (i:=2) (g:=1) (f:=(F:Int)) (z3.ext hy) z4.one.calm hokF z4.one.lk z4.one.fl (HAR.out wy (hbx'.trans (hy.mono hbx'.size))) hnR hjR.1 hjR.2 (by dsimp only;rw[fileB_size];omega) (by rw[z4.one.used,z4.one.cap];dsimp only;rw[fileB_size];omega)).mono ?_;rintro e w' ⟨B,hB,rfl,S4,g1,g2⟩;exact⟨_,B,S4,rfl,rfl,hB,g1,g2⟩)
        have HST:=Lib.hid (fun(wy w4 w5 w6:World) (B:ByteArray) (S4:Nat->Prop) (g' n' c' b13:Nat) (hB:BlkOf R B) (hy:Below wx.heap.size wx wy) hd hg h13 hr13 n13 ho hgr hat=>lf_step (bd:=bd) (w6:=w6) (g:=g') (n:=n') (c:=c') (b13:=b13) (wx:=wy) (w4:=w4) (w5:=w5) (S4:=S4) h1 h2 HSX.out.2.2.1 (HSX.out.2.2.2 (R,B)) h5 h6 h7 h8 hbw hbx hR hjR hB (hgx.trans (Gr.of_below hy)) hd hg h13 (Nat.le_trans hgx.size hr13) n13 ho hgr hat);have HOWN:=Lib.hid (show ∀(wy w4 w5:World) (S4:Nat->Prop) (b13:Nat),Below wx.heap.size wx wy->Gr Sx wy S4 w4->Gr (fun j=>j=b13) w4 (fun j=>j=b13) w5->wx.heap.size<=b13->OwnM w5 w1.heap.size (.slice A9 (lay (hdrB 2 1 F).size pb).length c9) (lay (hdrB 2 1 F).size pb)/\w1.heap.size<=w5.heap.size from fun wy w4 w5 S4 b13 hy hg h13 hr13=>by
         have hlt:=World.ownsRow.lt h5;have hg0:=(hgx.trans (Gr.of_below hy)).trans hg;have h9:OwnM w4 w1.heap.size (.slice A9 (lay (hdrB 2 1 F).size pb).length c9) (lay (hdrB 2 1 F).size pb):=own_block h5 fun j e=>hg0.block j (hlt j e).2 (h6 j e)
         exact⟨own_block h9 fun j e=>h13.block j (Nat.lt_of_lt_of_le (hlt j e).2 hg0.size) (by rintro rfl;have:=(hlt _ e).2;have:=hgx.size;omega),Nat.le_trans hbw.size (Nat.le_trans hg0.size h13.size)⟩)
        have HNS:=Lib.hid (show ∀wy,Below wx.heap.size wx wy-> ∀j,wx.heap.size<=j-> ¬ Sx j from fun wy _ j hj=>HSX.out.2.1.gt hj);have HLE:=Lib.hid (show(lay (hdrB 2 1 F).size pb).length<=1000000 by omega);have HCL:=Lib.hid (show ∀wy,Below wx.heap.size wx wy->wy.cell? (adp.add k)=some (.slice AR nR cR)/\wy.cell? ⟨w3.heap.size,0,none⟩=some (.int .i64 2)/\wy.cell? ⟨w3.heap.size,1,none⟩=some (.int .i64 1)/\wy.cell? ⟨w3.heap.size,2,none⟩=some (.int .i64 (F:Int)) from fun wy hy=>by
         have hb':=hbx'.trans (hy.mono hbx'.size);exact⟨(hb'.cell (p:=adp.add k) (by rw[add_block];exact hadp)).trans hcell,(hk8.ext hy).cell 0 rfl,(hk8.ext hy).cell 1 rfl,(hk8.ext hy).cell 2 rfl⟩)
        have k0:=hk8.cell 0 (v:=.int .i64 2) rfl;have k1:=hk8.cell 1 (v:=.int .i64 1) rfl;have k2:=hk8.cell 2 (v:=.int .i64 (F:Int)) rfl;clear h1 h2 h3 h4 h5 h6 h7 h8 hbw hbx q1 q1' q2 q3 q4 q5 q6 q7 q8 f1 f2 f3 f4 f5 f6 hok hrd9 hl9 hcs hcell hR hcR hrdR hnR hjR hjb hRl hpl hadp H hgx hbx' hrx hk8 hokF HH4 HEND HAR HKH;generalize (hdrB 2 1 F).size+tot pb=T at *
        generalize lay (hdrB 2 1 F).size pb=L9 at *
        generalize hN9:L9.length=n9 at *
        have HN9:=Lib.hid hN9;clear hN9;go_wp2_with (first
         |(go_at_call 9;refine HEN.out.mono ?_;rintro e5 w5 ⟨rfl,hb5⟩;have HB5:=Lib.hid hb5;have HB5d:=Lib.hid (show Below wx.heap.size wx w5.drew from hb5.trans ⟨rfl,rfl,rfl,Nat.le_refl _,fun _ _=>rfl⟩);clear hb5))
        clear k0 k1 k2;have k0:=(HCL.out _ HB5d.out).2.1;have k1:=(HCL.out _ HB5d.out).2.2.1;have k2:=(HCL.out _ HB5d.out).2.2.2;have k3:=(HCL.out _ HB5d.out).1;have HB5a:=Lib.hid (show Below wx.heap.size wx (w5.alloc (.cells #[.int .i64 0,.int .i64 0,.int .i64 0,.int .i64 0,.int .i64 0,.int .i64 0,.int .i64 0] 39)).drew from(HB5.out.trans ((ext_alloc w5 (.cells #[.int .i64 0,.int .i64 0,.int .i64 0,.int .i64 0,.int .i64 0,.int .i64 0,.int .i64 0] 39)).mono HB5.out.size)).trans ⟨rfl,rfl,rfl,Nat.le_refl _,fun _ _=>rfl⟩);have HZ5:=Lib.hid (show Blk (w5.alloc (.cells #[.int .i64 0,.int .i64 0,.int .i64 0,.int .i64 0,.int .i64 0,.int .i64 0,.int .i64 0] 39)).drew w5.heap.size #[.int .i64 0,.int .i64 0,.int .i64 0,.int .i64 0,.int .i64 0,.int .i64 0,.int .i64 0] 39 from Blk.new w5 _ _);have j0:=(HCL.out _ HB5a.out).2.1;have j1:=(HCL.out _ HB5a.out).2.2.1;have j2:=(HCL.out _ HB5a.out).2.2.2;have j3:=(HCL.out _ HB5a.out).1;go_region_with (first
         |(go_at_call 10;first
          |(refine(HADD.out _ HB5d.out).mono ?_;rintro e6 w6 ⟨mm,B,S4,rfl,hmm,hB,hd6,hg6⟩;have HD6:=Lib.hid (And.intro hmm (And.intro hB (And.intro hd6 hg6)));clear hmm hB hd6 hg6)
          |(refine(HADD.out _ HB5a.out).mono ?_;rintro e6 w6 ⟨mm,B,S4,rfl,hmm,hB,hd6,hg6⟩;have hz:=hg6.blk HZ5.out (HNS.out _ HB5a.out _ HB5.out.size);have y0:=hz.cell 0 (v:=.int .i64 0) rfl;have y1:=hz.cell 1 (v:=.int .i64 0) rfl;have y2:=hz.cell 2 (v:=.int .i64 0) rfl;have y3:=hz.cell 3 (v:=.int .i64 0) rfl;have y4:=hz.cell 4 (v:=.int .i64 0) rfl;have y5:=hz.cell 5 (v:=.int .i64 0) rfl;have y6:=hz.cell 6 (v:=.int .i64 0) rfl;have x0:=hz.fz 0;have x1:=hz.fz 1;have x2:=hz.fz 2;have x3:=hz.fz 3;have x4:=hz.fz 4;have x5:=hz.fz 5;have x6:=hz.fz 6;have HD6:=Lib.hid (And.intro hmm (And.intro hB (And.intro hd6 hg6)));clear hmm hB hd6 hg6 hz)))
        all_goals clear j0 j1 j2 j3 k0 k1 k2 k3
        all_goals
         go_wp2_with (first
          |(at_builtin;first
           |(refine appendM mm rfl rfl rfl rfl rfl rfl rfl (HOWN.out _ w6 _ S4 w6.heap.size HB5d.out HD6.out.2.2.2 (Gr.of_below (ext_alloc w6 _)) (Nat.le_trans HB5d.out.size HD6.out.2.2.2.size)).1 (by rw[HN9.out];exact HLE.out) (HOWN.out _ w6 _ S4 w6.heap.size HB5d.out HD6.out.2.2.2 (Gr.of_below (ext_alloc w6 _)) (Nat.le_trans HB5d.out.size HD6.out.2.2.2.size)).2 ?_ (hx:=by simp[Act.eval]);intro g7 cap w7 hown7 hg7 hat7;have HL7:Aside _:=HST.out _ w6 _ w7 B S4 g7 _ cap w6.heap.size HD6.out.2.1 HB5d.out HD6.out.2.2.1 HD6.out.2.2.2 (Gr.of_below (ext_alloc w6 _)) (Nat.le_trans HB5d.out.size HD6.out.2.2.2.size) (HD6.out.2.2.1.gt (Nat.le_refl _)) (by rw[<-HD6.out.1];exact hown7) hg7 hat7;clear hown7 hg7 hat7)
           |(refine appendM mm rfl rfl rfl rfl rfl rfl rfl (HOWN.out _ w6 _ S4 w5.heap.size HB5a.out HD6.out.2.2.2 (gr7 _ _ _ _ _ _ _ _ _) HB5.out.size).1 (by rw[HN9.out];exact HLE.out) (HOWN.out _ w6 _ S4 w5.heap.size HB5a.out HD6.out.2.2.2 (gr7 _ _ _ _ _ _ _ _ _) HB5.out.size).2 ?_ (hx:=by simp[Act.eval]);intro g7 cap w7 hown7 hg7 hat7;have HL7:Aside _:=HST.out _ w6 _ w7 B S4 g7 _ cap w5.heap.size HD6.out.2.1 HB5a.out HD6.out.2.2.1 HD6.out.2.2.2 (gr7 _ _ _ _ _ _ _ _ _) HB5.out.size (HD6.out.2.2.2.out (by simp) (HNS.out _ HB5a.out _ HB5.out.size)) (by rw[<-HD6.out.1];exact hown7) hg7 hat7;clear hown7 hg7 hat7)))
         go_roundg (n1-(k+1))
         case measure=>omega
         case rel=>exact⟨k+1,by go_num,by omega,by omega,HL7⟩
      ·obtain rfl:k=n1:=by omega
       obtain⟨⟨pb,S,D,b,h1,h2,h3,h4,h5,h6,h7,h8⟩,hbw,hbx⟩:=H.out;obtain⟨q1,q2,q3,q4,q5,q6,q7,q8⟩:=HPA2.out;obtain⟨f1,f2,f3,f4,f5,f6⟩:=pf q5 q8 HX.out.2 q7 h1 h2 HF.out;have hmp:pb.map (·.1)=Q:=by rw[h1,List.take_of_length_le (by omega)]
       have hpl:pb.length=k:=by have:=congrArg List.length hmp;rw[List.length_map] at this;omega
       obtain⟨A9,c9,rfl,hc9,-⟩:=own_slice h5;have hl9:(lay (hdrB 2 1 F).size pb).length=k:=(length_lay _ _).trans hpl;have hokF:okH 2 1 (F:Int)=true:=by simp only[okH,decide_eq_true_eq];have:=HF.out;omega
       have kb:=(HKB.out wr hbw).1;have k0:=hbx.cell 0 (v:=.int .i64 2) rfl;have k1:=hbx.cell 1 (v:=.int .i64 1) rfl;have k2:=hbx.cell 2 (v:=.int .i64 (F:Int)) rfl;have HH4:=Lib.hid (And.intro h3 h4);have HM5:=Lib.hid (show ∀(wz:World) (Sz:Nat->Prop),Gr S wr Sz wz->Rd wz wz.heap.size 7 A9 (lay (hdrB 2 1 F).size pb).length (fl7 (lay (hdrB 2 1 F).size pb))/\Blk wz w3.heap.size #[.int .i64 2,.int .i64 1,.int .i64 (F:Int)] 33/\Below w1.heap.size w1 wz from fun wz Sz hg =>
        ⟨Rd.of_own (own_block h5 fun j e=>hg.block j (World.ownsRow.lt h5 j e).2 (h6 j e)),hg.blk hbx h8,hbw.trans (hg.below hbw.size h7)⟩)
       have HPF:=Lib.hid (And.intro h2 (And.intro f1 (And.intro f2 (And.intro (show pb.length<=1000 by omega) (And.intro (show(hdrB 2 1 F).size+tot pb<=1000000 by omega) (show N1<=pb.length by omega))))));rw[hl9] at hc9;have HL9:=Lib.hid hl9;have hk1000:k<=1000:=by omega
       have HPL:=Lib.hid hpl;clear h1 h2 h3 h5 h6 h7 h8 hbw hbx q1 q2 q3 q4 q5 q6 q7 q8 f1 f2 f3 f4 f5 f6 hmp hpl H;rw[hl9];clear hl9;go_upto_region 19 with (fail)
       go_cut [117] from 107 to 116 (fun s wy=>s=.bool false/\ ∃(wx:World) (Sx:Nat->Prop) (D':DS),wx=wy/\Aside (Gr S wr Sx wx/\DiskAt wx Sx bd D'/\Of1 D' b (segN 2 1) (fileB (hdrB 2 1 F) (pb.take N1),fileB (hdrB 2 1 F) pb)))
       case first =>
        by_cases hkN:N1=k
        ·have hkb:((N1:Int)==(k:Int))=true:=by rw[beq_iff_eq];omega
         have HSY:=Lib.hid (Sync_go (i:=2) (g:=1) (f:=(F:Int)) HH4.out.1 hokF h4.one.calm.off h4.one.lk h4.one.fl);rw[h4.one.calm.e] at HSY;have HNX:=Lib.hid (show fileB (hdrB 2 1 F) (pb.take N1)=fileB (hdrB 2 1 F) pb from by rw[List.take_of_length_le (by have:=HPL.out;omega)]);clear h4 hkN;go_wp2_with (go_at_call 20;refine HSY.out.mono ?_;rintro e6 w6 ⟨rfl,S6,q1,q2⟩;have HD6:=Lib.hid (And.intro q1 q2);clear q1 q2)
         go_meet
         case rel=>exact⟨rfl,_,S6,_,rfl,HD6.out.2,HD6.out.1,by rw[HNX.out];exact HH4.out.2.sync'⟩
        ·have hkb:((N1:Int)==(k:Int))=false:=by rw[beq_eq_false_iff_ne];omega
         have HNX:=Lib.hid (show safeB (hdrB 2 1 F) N1 pb k=fileB (hdrB 2 1 F) (pb.take N1) from safe_hi (by omega));clear h4 hkN;go_wp2_with fail
         go_meet
         case rel=>exact⟨rfl,_,S,D,rfl,Gr.refl _ _,HH4.out.1,by rw[<-HNX.out];exact HH4.out.2⟩
       case rest =>
        obtain⟨rfl,wx,Sx,D',rfl,hSX⟩:=hcut;have HSX:=Lib.hid hSX.out;clear hSX kb k0 k1 k2 h4 HH4;have HOF:=Lib.hid (off_any HSX.out.2.1);generalize hLL:lay (hdrB 2 1 F).size pb=L9 at *
        have HLL:=Lib.hid hLL;clear hLL;have HBT:=Lib.hid (show ∀(w6:World),DiskAt w6 Sx bd (offD D')->Gr Sx wx Sx w6->Calls Tryz.prog 22 #[.pointer (some ⟨bd,0,none⟩),.agg #[.int .i64 m2,.slice (some ⟨w6.heap.size,0,none⟩) 1 1,.slice none 0 0]] (w6.alloc (.cells #[.int .i64 ct] 3)) fun e w'=>e=.returned (.int .i64 0)/\ ∃(c b':Nat) (S':Nat->Prop) (D':DS),(fileB (hdrB 2 1 F) (pb.take N1)).size<=c/\c<=(fileB (hdrB 2 1 F) pb).size/\DiskAt w' S' bd D'/\Of1 D' b' (segN 2 1) ((fileB (hdrB 2 1 F) pb).extract 0 c,(fileB (hdrB 2 1 F) pb).extract 0 c)/\Gr S wr S' w' from fun w6 hd hg=>by
         refine(falls_boot (hd.ext (ext_alloc w6 _)) HSX.out.2.2 (some ⟨w6.heap.size,0,none⟩) 1 1 ct m2 (rd_lit w6 3 [ct]) (by omega)).mono ?_;rintro e w' ⟨rfl,c',b',S',D2,g1,g2,g3,g4,g5⟩;exact⟨rfl,c',b',S',D2,g1,g2,g3,g4,HSX.out.1.trans (hg.trans ((Gr.alloc _).trans g5))⟩)
        have HTR:=Lib.hid (show ∀(w7:World) (S7:Nat->Prop) (D7:DS) (c' b':Nat),(fileB (hdrB 2 1 F) (pb.take N1)).size<=c'->c'<=(fileB (hdrB 2 1 F) pb).size->DiskAt w7 S7 bd D7->Of1 D7 b' (segN 2 1) ((fileB (hdrB 2 1 F) pb).extract 0 c',(fileB (hdrB 2 1 F) pb).extract 0 c')->Gr S wr S7 w7->Calls Tryz.prog 23 #[.pointer (some ⟨bd,0,none⟩),.agg #[.int .i64 2,.int .i64 1,.int .i64 (F:Int)]] w7 fun e w' =>
          ∃(A':Option Addr) (q c':Nat) (T:ByteArray),e=.returned (.tuple #[.slice A' q c',.int .i64 (T.size:Int),.int .i64 0])/\N1<=q/\q<=k/\Rd w' w'.heap.size 7 A' q (fl7 (L9.take q))/\ ∃(S':Nat->Prop) (D':DS),DiskAt w' S' bd D'/\Of1 D' b' (segN 2 1) (T,T)/\Gr S wr S' w' from fun w7 S7 D7 c' b' e1 e2 hd ho hg=>by
         obtain⟨z1,z2,z3,z4,z5,z6⟩:=HPF.out;refine(falls_trim hd ho HF.out z1 z2 z3 z4 z5 z6 e1 e2).mono ?_;rintro e w' ⟨A',q,c'',T,rfl,g1,g2,g3,S',D',g4,g5,g6⟩;rw[HLL.out] at g3;exact⟨A',q,c'',T,rfl,g1,by have:=HPL.out;omega,g3,S',D',g4,g5,hg.trans g6⟩)
        have k0:=(HM5.out _ _ HSX.out.1).2.1.cell 0 (v:=.int .i64 2) rfl;have k1:=(HM5.out _ _ HSX.out.1).2.1.cell 1 (v:=.int .i64 1) rfl;have k2:=(HM5.out _ _ HSX.out.1).2.1.cell 2 (v:=.int .i64 (F:Int)) rfl;go_wp2_with (first
         |(go_at_call 21;refine HOF.out.mono ?_;rintro e6 w6 ⟨rfl,hd6,hg6⟩;have HD6:=Lib.hid (And.intro hd6 hg6);have kb2:=(HKB.out w6 (HM5.out _ _ (HSX.out.1.trans hg6)).2.2).2;clear hd6 hg6 k0 k1 k2)
         |(go_at_call 22;refine(HBT.out w6 HD6.out.1 HD6.out.2).mono ?_;rintro e7 w7 ⟨rfl,c',b',S7,D7,e1,e2,hd7,ho7,hg7⟩;have HD7:=Lib.hid (HTR.out w7 S7 D7 c' b' e1 e2 hd7 ho7 hg7);have hx7:=(HM5.out _ _ hg7).2.1;have k0:=hx7.cell 0 (v:=.int .i64 2) rfl;have k1:=hx7.cell 1 (v:=.int .i64 1) rfl;have k2:=hx7.cell 2 (v:=.int .i64 (F:Int)) rfl;clear e1 e2 hd7 ho7 hg7 hx7 kb2))
        refine HD7.out.mono ?_;rintro e8 w8 ⟨A',q,c8,T,rfl,hq1,hq2,hr8,S8,D8,hd8,ho8,hg8⟩;have HD8:=Lib.hid (And.intro hd8 (And.intro ho8 (And.intro hg8 hr8)));clear k0 k1 k2;have hx8:=(HM5.out _ _ hg8).2.1;have k0:=hx8.cell 0 (v:=.int .i64 2) rfl;have k1:=hx8.cell 1 (v:=.int .i64 1) rfl;have k2:=hx8.cell 2 (v:=.int .i64 (F:Int)) rfl;have kb1:=(HKB.out w8 (HM5.out _ _ hg8).2.2).1;clear hd8 ho8 hg8 hr8 hx8;have i1: ¬ (q:Int)<(N1:Int):=by omega
        have i2: ¬ (q:Int)>(k:Int):=by omega
        have i3:(q:Int)<=(c9:Int):=by omega
        have i4:(0:Int)<=(q:Int):=by omega
        have HMM:=Lib.hid (show Rd w8 w8.heap.size 7 A9 q (fl7 (L9.take q)) from by
         have:=(HM5.out _ _ HD8.out.2.2.1).1;rw[HL9.out] at this;rw[fl7_take];exact this.take hq2)
        have HQ:=Lib.hid (show q<=1000000 by omega);have HHB:=Lib.hid (HM5.out _ _ HD8.out.2.2.1).2.1;clear HTR HBT HOF;go_wp2_with (first
         |(go_at_call 17;refine(same_mt A' A9 q c8 c9 (L9.take q) w8 HD8.out.2.2.2 HMM.out HQ.out).mono ?_;rintro e9 w9 ⟨rfl,hb9⟩;have HB9:=Lib.hid hb9;clear k0 k1 k2;have hx9:=HHB.out.ext hb9;have k0:=hx9.cell 0 (v:=.int .i64 2) rfl;have k1:=hx9.cell 1 (v:=.int .i64 1) rfl;have k2:=hx9.cell 2 (v:=.int .i64 (F:Int)) rfl;clear hb9 hx9)
         |(go_at_call 12;refine(falls_read (HD8.out.1.ext HB9.out) HD8.out.2.1 HF.out).mono ?_;rintro e10 w10 ⟨rfl,hb10⟩;have HB10:=Lib.hid (ext_trans HB9.out hb10);clear hb10 k0 k1 k2)
         |(go_at_call 24;refine(falls_do (HD8.out.1.ext HB10.out) HD8.out.2.1).mono ?_;rintro e11 w11 ⟨rfl,S11,hg11⟩;have HB11:=Lib.hid (HM5.out _ _ (HD8.out.2.2.1.trans ((Gr.of_below HB10.out).trans hg11))).2.2;clear hg11)
         |(go_at_call 6;refine(HA.out _).mono ?_;rintro e12 w12 ⟨rfl,hb12⟩;have HB12:=Lib.hid (HB11.out.trans (hb12.mono HB11.out.size));clear hb12))
        go_ret
        exact⟨rfl,HB1.out.trans (HB12.out.mono HB1.out.size)⟩
    ·have hNn':(N1:Int)>(n1:Int):=by omega
     go_wp2_with (go_at_call 6;refine(HA.out _).mono ?_;rintro e2 w2 ⟨rfl,hb2⟩)
     go_ret
     exact⟨rfl,HB1.out.trans (hb2.mono HB1.out.size)⟩
  ·have hm1':m1<0:=by omega
   clear hm1
   go_enter Tryz.func4, Tryz.ntmps4
   go_upto_region 2 with (first
    |(go_at_call 5;refine HP.out.mono ?_;rintro e1 w1 ⟨v1,rfl,hpa,hb1⟩;have HB1:=Lib.hid (HBX.out.trans (hb1.mono HBX.out.size));have HBB1:=Lib.hid (HBB.out.ext hb1);clear hb1;obtain⟨A1,n1,c1,rfl,hpn⟩:=pts_norm hpa;clear hpa hpn))
   have kb1:=HBB1.out.cell 1 (v:=.int .i64 m1) rfl;go_wp2_with (go_at_call 6;refine(HA.out _).mono ?_;rintro e2 w2 ⟨rfl,hb2⟩)
   all_goals
    go_ret
    exact⟨rfl,HB1.out.trans (hb2.mono HB1.out.size)⟩
 ·have HP2:=Lib.hid (HP.out.mono (R':=fun e w'=>(∃(A1:Option Addr) (c1:Nat),e=.returned (.slice A1 0 c1))/\Below (w.alloc (.cells #[.int .i64 m0,.int .i64 m1,.int .i64 m2] 56)).heap.size (w.alloc (.cells #[.int .i64 m0,.int .i64 m1,.int .i64 m2] 56)) w') (by
   rintro e w' ⟨v,rfl,hpa,hb⟩;obtain⟨A1,n1,c1,rfl,rfl|⟨cs,Q,hn1,hn2,q1,q2,q3,q4,q5,q6,q7,q8⟩⟩:=pts_norm hpa
   ·exact⟨⟨A1,c1,rfl⟩,hb⟩
   ·exfalso
    refine hcase ⟨?_,q8⟩;rcases hQ:Q with _|⟨R,Q'⟩
    ·rw[hQ] at q3;simp at q3;omega
    ·have hR:R∈Q:=by rw[hQ];exact List.mem_cons_self ..
     have h1:=(List.sublist_flatten_of_mem hR).length_le;have h2:=List.length_pos_iff.2 (q6 R hR).2;rw[q5] at h1;omega))
  clear HP hrd hnc hcm hm HAW hln hcase
  go_enter Tryz.func4, Tryz.ntmps4
  go_wp2_with (first
   |(go_at_call 5;refine HP2.out.mono ?_;rintro e1 w1 ⟨⟨A1,c1,rfl⟩,hb1⟩;have HB1:=Lib.hid (HBX.out.trans (hb1.mono HBX.out.size));clear hb1)
   |(go_at_call 6;refine(HA.out _).mono ?_;rintro e2 w2 ⟨rfl,hb2⟩))
  go_ret
  exact⟨rfl,HB1.out.trans (hb2.mono HB1.out.size)⟩
end Dk
end Go.Proofs.YtlnbjikooadmoaaGreat
namespace Go.Proofs.YtlnbjikooadmoaaGreat
namespace Dk
open Go.RowKit Hd Fm Sn Bk Rd Bd
theorem int_top {m:Int} (h:(Lit.int .i64 m).wf=true):m<=9223372036854775807:=by
 simp only[Lit.wf,IntKind.min,IntKind.max,IntKind.signed,IntKind.bits,Bool.and_eq_true,decide_eq_true_eq,if_true] at h;omega
theorem falls_law (A:Option Addr) (n c:Nat) (l:List (Int×Int×ByteArray)) (m0 m1 m2 ct:Int) (w:World) (hrd:Rd w w.heap.size 3 A n (fl3 l)) (hnc:n<=c) (hcm:c<=maxLen) (hm:(Lit.int .i64 m0).wf=true) :
  Calls Tryz.prog 4 #[.slice A n c,.agg #[.int .i64 m0,.int .i64 m1,.int .i64 m2],.int .i64 ct] w fun e w'=>e=.returned (.bool true)/\Below w.heap.size w w' :=
 falls_any awake_any A n c l m0 m1 m2 ct w hrd hnc hcm (int_top hm)
end Dk
end Go.Proofs.YtlnbjikooadmoaaGreat
namespace Go.Proofs.YtlnbjikooadmoaaGreat
namespace Rd
open Go.RowKit Go.ChangeShapes Go.WideShapes Go.Deep
theorem fl3_inv {l:List (Int×Int×ByteArray)} {j:Nat} {u:Value} (h:(fl3 l)[j]? =some u):∃(k s:Nat) (x:Int×Int×ByteArray),j=k*3+s/\s<3/\l[k]? =some x/\(cl3 x)[s]? =some u:=by
 have hj:j<l.length*3:=by rw[<-length_fl3];exact(List.getElem?_eq_some_iff.1 h).1
 have hk:j/3<l.length:=by omega
 obtain⟨x,hx⟩:∃x,l[j/3]? =some x:=⟨_,List.getElem?_eq_getElem hk⟩
 obtain⟨h1,h2,h3⟩:=fl3_at l (j/3) x hx;have hs:j%3<3:=Nat.mod_lt _ (by omega);refine⟨j/3,j%3,x,by omega,hs,hx,?_⟩;rw[show j=j/3*3+j%3 by omega] at h;generalize j%3=s at *
 rcases s with _|_|_|s
 ·rw[Nat.add_zero] at h;exact h1.symm.trans h
 ·exact h2.symm.trans h
 ·exact h3.symm.trans h
 ·omega
theorem open_recs {H:Type} {enc:TypeId×Value->H} {P:Program} {w:World} {base:Nat} {r:Reach} {t e:TypeId} {f0 f1 f2:Field} {v:Value} {d:DataW H} {p:List MemPlace}
  (ht:P.underlying t=some (.slice e)) (he:P.underlying e=some (.struct #[f0,f1,f2])) (hone:oneCellFields P #[f0,f1,f2]=true) (hc:P.cellsOf e=3)
  (t0:P.underlying f0.type=some (.int .i64)) (t1:P.underlying f1.type=some (.int .i64)) (t2:P.underlying f2.type=some .string)
  (hv:Value.okWide P w r base t v) (h:DataW.Trod enc P w 0 (fun _=>true) true t v d p) :
  ∃(A:Option Addr) (n c:Nat) (l:List (Int×Int×ByteArray)),v=.slice A n c/\Rd w w.heap.size 3 A n (fl3 l)/\n<=c/\c<=maxLen/\l.length=n:=by
 obtain⟨a0,len,cap,rfl⟩:=okWide_slice ht hv;obtain⟨fuel,hf⟩:=h;rcases Go.Deep.open_slice ht hf with ⟨hcs,-⟩|⟨a,len',cap',m,n,D,Pl,hcs,-,hl,hm,hmm,-,hx⟩
 ·simp[Value.cells] at hcs
  obtain⟨rfl,rfl,rfl⟩:=hcs;exact⟨none,0,0,[],rfl,Rd.nil,Nat.le_refl _,by simp[maxLen],rfl⟩
 ·simp[Value.cells] at hcs
  obtain⟨rfl,rfl,rfl⟩:=hcs;rw[hc] at hx;have hlm:len<=m:=by rw[hmm,if_pos rfl];exact hl
  have hex:∀i,i<len-> ∃x:Int×Int×ByteArray,∀s u,(cl3 x)[s]? =some u->w.cell? (a.add (i*3+s))=some u:=by
   intro i hi;obtain⟨cs',hcl,htr⟩:=hx i (by omega);obtain⟨-,hlen,hat⟩:=World.cells?_some hcl;obtain⟨ys,k,-,-,-,hyl,hfl⟩:=DataW.trod_struct he htr
   match cs',hlen with
   | [c0,c1,c2],_ =>
     have g:∀(j:Nat) (f:Field),#[f0,f1,f2][j]? =some f-> ∃y,DataW.trod enc P w 0 (fun _=>true) true k f.type (([c0,c1,c2].drop j).take 1)=some y:=by
      intro j f hj;obtain⟨o1,o2⟩:=Go.Deep.hone_of hone j f hj;have:=hfl j f hj;rw[o1,o2] at this;have hjl:j<ys.length:=by rw[hyl];exact(Array.getElem?_eq_some_iff.1 hj).1
      exact⟨_,this.trans (List.getElem?_eq_getElem hjl)⟩
     obtain⟨y0,g0⟩:=g 0 f0 rfl;obtain⟨y1,g1⟩:=g 1 f1 rfl;obtain⟨y2,g2⟩:=g 2 f2 rfl;obtain⟨q,hq,-,-⟩:=DataW.trod_int t0 g0;obtain⟨tk,htk,-,-⟩:=DataW.trod_int t1 g1;obtain⟨d,hd,-,-⟩:=DataW.trod_string t2 g2;simp at hq htk hd
     subst hq;subst htk;subst hd;refine⟨(q,tk,d),fun s u hu=>?_⟩;rw[<-add_add];have hs:s<3:=(List.getElem?_eq_some_iff.1 hu).1;rw[hat s hs];exact hu
  obtain⟨R,hR⟩:=Go.Deep.choose_lt hex;refine⟨some a,len,cap,(List.range len).map R,rfl,⟨by rw[length_fl3];simp,fun hn=>⟨a,rfl,?_,?_⟩⟩,hl,hm,by simp⟩
  ·have h0:=World.block_lt_of_cell? w _ (hR 0 hn 0 _ rfl)
   rwa [add_block] at h0
  ·intro j u hu
   obtain⟨k,s,x,rfl,hs,hk,hc⟩:=fl3_inv hu;rw[List.getElem?_map] at hk;rcases Nat.lt_or_ge k len with hkl|hkl
   ·rw[List.getElem?_eq_getElem (by simpa using hkl)] at hk
    simp at hk
    subst hk;exact hR k hkl s u hc
   ·rw[List.getElem?_eq_none (by simpa using hkl)] at hk
    cases hk
end Rd
end Go.Proofs.YtlnbjikooadmoaaGreat
namespace Go.Proofs.YtlnbjikooadmoaaGreat
open Go.ChangeShapes Go.WideShapes Go.ChangeAt Go.RowKit
theorem open_arr3 {H:Type} {enc:TypeId×Value->H} {P:Program} {w:World} {base b0:Nat} {spare:Nat->Bool} {held:Bool} {r:Reach} {t e:TypeId} {k:IntKind} {v:Value} {d:DataW H} {p:List MemPlace}
  (ht:P.underlying t=some (.array 3 e)) (he:P.underlying e=some (.int k)) (hc:P.cellsOf e=1) (hC:P.cellsOf t=3)
  (hv:Value.okWide P w r b0 t v) (h:DataW.Trod enc P w base spare held t v d p):∃a b c:Int,v=.agg #[.int k a,.int k b,.int k c]/\(Lit.int k a).wf=true:=by
 simp only[Value.okWide,ht] at hv;obtain⟨cs,rfl,hsz,_⟩:=hv;obtain⟨c0,c1,c2,rfl⟩:∃a b c,cs= #[a,b,c]:=by
  have h2:cs.size=3:=hsz.trans hC;obtain⟨l⟩:=cs
  match l,h2 with
  | [a,b,c],_=>exact⟨a,b,c,rfl⟩
 obtain⟨fuel,hf⟩:=h;obtain⟨xs,m,_,_,_,hl,hx⟩:=DataW.trod_array ht hf;have h0:=hx 0 (by omega);have h1:=hx 1 (by omega);have h2:=hx 2 (by omega);rw[List.getElem?_eq_getElem (by omega)] at h0 h1 h2;simp only[hc,Value.cells] at h0 h1 h2;obtain⟨n0,e0,w0⟩:=DataW.trod_int he h0;obtain⟨n1,e1,_⟩:=DataW.trod_int he h1;obtain⟨n2,e2,_⟩:=DataW.trod_int he h2;simp at e0 e1 e2
 exact⟨n0,n1,n2,by rw[e0,e1,e2],by simp_all⟩
end Go.Proofs.YtlnbjikooadmoaaGreat
