/- Names of files: what the functions of package name, and of its reference, compute: plain lists of bytes, no program. Names of files: each function of package name, and of its reference, tells what the plain functions of NamePlain tell; nothing that was there has turned. disk: changed, Create, New. -/
import Derived.Test.YtphfmgapiimliaaGreatOl01
import Derived.Test.YtphfmgapiimliaaGreatRows
import Derived.Test.YtphfmgapiimliaaGreatOl30
import Derived.Test.YtphfmgapiimliaaGreatOl11
namespace Go.Proofs.YtphfmgapiimliaaGreat
namespace Nm
def okRune (r:Int):Bool:=(decide (97<=r)&&decide (r<=122))||(decide (48<=r)&&decide (r<=57))||(r==46)||(r==45)
def okB (c:UInt8):Bool:=okRune c.toNat
def check (l:List UInt8):Int:=if 1<=l.length/\l.length<=64/\l.all okB=true then 0 else 180
def num6 (n:Int):List UInt8:=toU8 [48+n/10/10/10/10/10%10,48+n/10/10/10/10%10,48+n/10/10/10%10,48+n/10/10%10,48+n/10%10,48+n%10]
def may (n:Int):Bool:=decide (1<=n)&&decide (n<=999999)
def seg (i g:Int):List UInt8:=[115,101,103,45]++num6 i++[45]++num6 g++[46,108,111,103]
def isD (c:UInt8):Bool:=decide (48<=c.toNat)&&decide (c.toNat<=57)
def valTo (n:Int):List UInt8->Int
 | []=>n
 |c::l=>valTo (10*n+((c.toNat:Int)-48)) l
def value (l:List UInt8):Int:=if l.all isD=true then valTo 0 l else 0
def unsix (l:List UInt8):Int:=if l.all isD=true then valTo 0 l else -1
def parse (l:List UInt8):Option (Int×Int) :=
 if l.length=21 then
  let i:=value ((l.drop 4).take 6)
  let g:=value ((l.drop 11).take 6)
  if may i=true/\may g=true/\seg i g=l then some (i,g) else none
 else none
def parseR (l:List UInt8):Option (Int×Int) :=
 if l.length=21/\l.take 4=[115,101,103,45]/\l[10]? =some 45/\l.drop 17=[46,108,111,103] then
  let i:=unsix ((l.drop 4).take 6)
  let g:=unsix ((l.drop 11).take 6)
  if i<1∨g<1 then none else some (i,g)
 else none
theorem length_num6 (n:Int):(num6 n).length=6:=rfl
theorem length_seg (i g:Int):(seg i g).length=21:=rfl
theorem ofNat_toNat (c:UInt8) (z:Int) (h:z=c.toNat):UInt8.ofNat z.toNat=c:=by
 subst h;simp
theorem list6 {α:Type} (l:List α) (h:l.length=6):∃a b c d e f,l=[a,b,c,d,e,f]:=by
 match l,h with
 | [a,b,c,d,e,f],_=>exact⟨a,b,c,d,e,f,rfl⟩
theorem toNat_u8 (z:Int) (h0:0<=z) (h1:z<256):((UInt8.ofNat z.toNat).toNat:Int)=z:=by
 simp only[UInt8.toNat_ofNat'];omega
theorem num6_val (l:List UInt8) (h:l.length=6) (hd:l.all isD=true):num6 (valTo 0 l)=l/\0<=valTo 0 l/\valTo 0 l<=999999:=by
 obtain⟨a,b,c,d,e,f,rfl⟩:=list6 l h;simp only[List.all_cons,List.all_nil,isD,Bool.and_eq_true,decide_eq_true_eq,Bool.and_true] at hd;simp only[valTo];refine⟨?_,by omega,by omega⟩;simp only[num6,toU8,List.map_cons,List.map_nil];congr 1
 ·exact ofNat_toNat _ _ (by omega)
 congr 1
 ·exact ofNat_toNat _ _ (by omega)
 congr 1
 ·exact ofNat_toNat _ _ (by omega)
 congr 1
 ·exact ofNat_toNat _ _ (by omega)
 congr 1
 ·exact ofNat_toNat _ _ (by omega)
 congr 1
 ·exact ofNat_toNat _ _ (by omega)
theorem dig_toNat (z:Int):((UInt8.ofNat (48+z%10).toNat).toNat:Int)=48+z%10:=toNat_u8 _ (by omega) (by omega)
theorem num6_digits (n:Int):(num6 n).all isD=true:=by
 simp only[num6,toU8,List.map_cons,List.map_nil,List.all_cons,List.all_nil,isD,Bool.and_eq_true,decide_eq_true_eq,Bool.and_true];have h0:=dig_toNat n;have h1:=dig_toNat (n/10);have h2:=dig_toNat (n/10/10);have h3:=dig_toNat (n/10/10/10);have h4:=dig_toNat (n/10/10/10/10);have h5:=dig_toNat (n/10/10/10/10/10);omega
theorem val_num6 (n:Int) (h0:0<=n) (h1:n<=999999):valTo 0 (num6 n)=n:=by
 simp only[num6,toU8,List.map_cons,List.map_nil,valTo,dig_toNat];omega
theorem num6_inj {m n:Int} (h0:0<=m) (h1:m<=999999) (k0:0<=n) (k1:n<=999999) (h:num6 m=num6 n):m=n:=by
 rw[<-val_num6 m h0 h1,<-val_num6 n k0 k1,h]
theorem may_iff (n:Int):may n=true↔1<=n/\n<=999999:=by simp[may]
theorem drop4_seg (i g:Int):((seg i g).drop 4).take 6=num6 i:=rfl
theorem drop11_seg (i g:Int):((seg i g).drop 11).take 6=num6 g:=rfl
theorem join21 (l:List UInt8) (h:l.length=21) (h4:l.take 4=[115,101,103,45]) (h10:l[10]? =some 45) (h17:l.drop 17=[46,108,111,103]) :
  l=[115,101,103,45]++(l.drop 4).take 6++[45]++(l.drop 11).take 6++[46,108,111,103]:=by
 match l,h with
 | [a0,a1,a2,a3,a4,a5,a6,a7,a8,a9,a10,a11,a12,a13,a14,a15,a16,a17,a18,a19,a20],_ =>
   simp at h4 h10 h17
   obtain⟨rfl,rfl,rfl,rfl⟩:=h4;obtain⟨rfl,rfl,rfl,rfl⟩:=h17;subst h10;rfl
theorem parse_seg (i g:Int) (hi:may i=true) (hg:may g=true):parse (seg i g)=some (i,g):=by
 have hi':=(may_iff i).1 hi;have hg':=(may_iff g).1 hg;unfold parse;rw[if_pos (length_seg i g)];simp only[drop4_seg,drop11_seg,value,num6_digits,if_true];rw[val_num6 i (by omega) (by omega),val_num6 g (by omega) (by omega)];rw[if_pos ⟨hi,hg,rfl⟩]
theorem parse_some {l:List UInt8} {i g:Int} (h:parse l=some (i,g)):may i=true/\may g=true/\seg i g=l:=by
 unfold parse at h;split at h
 ·simp only at h
  split at h
  ·rename_i hh
   simp only[Option.some.injEq,Prod.mk.injEq] at h;obtain⟨rfl,rfl⟩:=h;exact hh
  ·cases h
 ·cases h
theorem parseR_seg (i g:Int) (hi:may i=true) (hg:may g=true):parseR (seg i g)=some (i,g):=by
 have hi':=(may_iff i).1 hi;have hg':=(may_iff g).1 hg;unfold parseR;rw[if_pos ⟨length_seg i g,rfl,rfl,rfl⟩];simp only[drop4_seg,drop11_seg,unsix,num6_digits,if_true];rw[val_num6 i (by omega) (by omega),val_num6 g (by omega) (by omega)];rw[if_neg (by omega)]
theorem parseR_some {l:List UInt8} {i g:Int} (h:parseR l=some (i,g)):may i=true/\may g=true/\seg i g=l:=by
 unfold parseR at h;split at h
 ·rename_i hl
  obtain⟨hl,h4,h10,h17⟩:=hl;simp only at h;split at h
  ·cases h
  ·rename_i hn
   simp only[Option.some.injEq,Prod.mk.injEq] at h;obtain⟨rfl,rfl⟩:=h;have e6:((l.drop 4).take 6).length=6:=by simp;omega
   have g6:((l.drop 11).take 6).length=6:=by simp;omega
   by_cases d1:((l.drop 4).take 6).all isD=true
   ·by_cases d2:((l.drop 11).take 6).all isD=true
    ·have a1:=num6_val _ e6 d1
     have a2:=num6_val _ g6 d2;simp only[unsix,d1,d2,if_true] at hn ⊢;refine⟨(may_iff _).2 (by omega),(may_iff _).2 (by omega),?_⟩;unfold seg;rw[a1.1,a2.1];exact(join21 l hl h4 h10 h17).symm
    ·exfalso
     apply hn
     right
     unfold unsix;rw[if_neg d2]
     decide
   ·exfalso
    apply hn
    left
    unfold unsix;rw[if_neg d1]
    decide
 ·cases h
theorem parse_eq (l:List UInt8):parse l=parseR l:=by
 rcases h:parse l with _|⟨i,g⟩
 ·rcases h':parseR l with _|⟨i,g⟩
  ·rfl
  ·obtain⟨a,b,rfl⟩:=parseR_some h'
   rw[parse_seg i g a b] at h;cases h
 ·obtain⟨a,b,rfl⟩:=parse_some h
  exact(parseR_seg i g a b).symm
def kind (l:List UInt8):Int :=
 if(parse l).isSome=true then 1 else if l=[109,97,110,105,102,101,115,116] then 2 else if l=[109,97,110,105,102,101,115,116,46,110,101,119] then 3 else 0
theorem okB_of_isD (c:UInt8) (h:isD c=true):okB c=true:=by
 simp[isD] at h
 simp[okB,okRune]
 omega
theorem check_seg (i g:Int):check (seg i g)=0:=by
 unfold check;rw[if_pos];refine⟨by rw[length_seg];decide,by rw[length_seg];decide,?_⟩;have h:∀n,(num6 n).all okB=true:=fun n=>List.all_eq_true.2 fun c hc=>okB_of_isD c (List.all_eq_true.1 (num6_digits n) c hc)
 unfold seg;simp only[List.all_append,h,Bool.and_eq_true]
 decide
end Nm
end Go.Proofs.YtphfmgapiimliaaGreat
namespace Go.Proofs.YtphfmgapiimliaaGreat
namespace Nm
open Go.RowKit
set_option maxHeartbeats 400000 in
theorem letter_any (r:Int) (w:World):Calls Tryz.prog 202 #[.int .i32 r] w fun e w'=>e=.returned (.bool (okRune r))/\w=w':=by
 go_enter Tryz.func202, Tryz.ntmps202
 go_wp2
 all_goals
  go_ret
  refine⟨ret_bool ?_,rfl⟩;unfold okRune;rw[Bool.eq_iff_iff];simp
  try omega
theorem all_take_succ (s:ByteArray) (p:UInt8->Bool) (k:Nat) (hk:k<s.size):(s.data.toList.take (k+1)).all p=((s.data.toList.take k).all p&&p s[k]):=by
 rw[List.take_succ_eq_append_getElem (by simpa using hk),List.all_append];simp
 rfl
theorem all_of_not (s:ByteArray) (p:UInt8->Bool) (k:Nat) (hk:k<s.size) (h:p s[k]=false):s.data.toList.all p=false:=by
 rw[List.all_eq_false];exact⟨s[k],List.getElem_mem (by simpa using hk),by simp[h]⟩
theorem okB_high (c:UInt8) (h:128<=c.toNat):okB c=false:=by
 simp[okB,okRune];omega
set_option maxHeartbeats 400000 in
theorem check_any (s:ByteArray) (w:World) :
  Calls Tryz.prog 163 #[.string s] w fun e w'=>e=.returned (.int .i64 (check s.data.toList))/\Below w.heap.size w w':=by
 by_cases h1:s.size<1
 ·have hr:check s.data.toList=180:=by
   unfold check;rw[if_neg];intro h;have:s.data.toList.length=s.size:=rfl;omega
  rw[hr];clear hr
  go_enter Tryz.func163, Tryz.ntmps163
  go_wp2
  go_ret
  exact⟨rfl,Below.refl _ _⟩
 by_cases h2:64<s.size
 ·have hr:check s.data.toList=180:=by
   unfold check;rw[if_neg];intro h;have:s.data.toList.length=s.size:=rfl;omega
  rw[hr];clear hr
  go_enter Tryz.func163, Tryz.ntmps163
  go_wp2
  go_ret
  exact⟨rfl,Below.refl _ _⟩
 go_enter Tryz.func163, Tryz.ntmps163
 go_wp2_with fail
 go_loopw [4] (fun _ wr=>∃pos:Nat,pos<=s.size/\wr=w.iter s pos/\(s.data.toList.take pos).all okB=true) (fun _ wr=>s.size-wr.iterPos w.heap.size)
 case atStart=>exact⟨0,by omega,rfl,by simp⟩
 case round =>
  obtain⟨pos,hp,rfl,hall⟩:=hrel;have Hall:=Lib.hid hall;clear hall;by_cases hlt:pos<s.size
  ·by_cases ha:(s[pos]'hlt).toNat<128
   ·have hnx:∀ty,(Instr.next (.pointer (some ⟨w.heap.size,0,none⟩)) true ty).run Tryz.prog (w.iter s pos)=_:=fun ty=>run_next_ascii w s pos ty hlt ha
    by_cases hk:okRune ((s[pos]'hlt).toNat:Int)=true
    ·have HK:=Lib.hid hk
     clear hk;go_wp2_with (go_at_call 202;refine(letter_any _ _).mono ?_;rintro e w' ⟨rfl,rfl⟩;rw[HK.out])
     go_roundw
     case rel =>
      refine⟨pos+1,by omega,rfl,?_⟩;rw[all_take_succ s okB pos hlt,Hall.out,okB,HK.out];rfl
     case measure=>simp;omega
    ·simp only[Bool.not_eq_true] at hk
     have HK:=Lib.hid hk;clear hk;go_wp2_with (go_at_call 202;refine(letter_any _ _).mono ?_;rintro e w' ⟨rfl,rfl⟩;rw[HK.out])
     go_ret
     have hno:=all_of_not s okB pos hlt HK.out;refine⟨ret_int ?_,below_iter (Below.refl _ _) (Nat.le_refl _) _ _⟩;unfold check;rw[if_neg (by rw[hno];simp)]
   ·have hnx:∀ty,(Instr.next (.pointer (some ⟨w.heap.size,0,none⟩)) true ty).run Tryz.prog (w.iter s pos)=_:=fun ty=>run_next_any w s pos ty hlt
    have hd:=(decode_high s pos hlt (by omega)).1;have hk:okRune ((Utf8.decode s pos).1:Int)=false:=by simp[okRune];omega
    have HK:=Lib.hid hk;clear hk;go_wp2_with (go_at_call 202;refine(letter_any _ _).mono ?_;rintro e w' ⟨rfl,rfl⟩;rw[HK.out])
    go_ret
    have hno:=all_of_not s okB pos hlt (okB_high _ (by omega));refine⟨ret_int ?_,below_iter (Below.refl _ _) (Nat.le_refl _) _ _⟩;unfold check;rw[if_neg (by rw[hno];simp)]
  ·have hnx:∀ty,(Instr.next (.pointer (some ⟨w.heap.size,0,none⟩)) true ty).run Tryz.prog (w.iter s pos)=_:=fun ty=>run_next_end w s pos ty hlt
   go_wp2_with fail
   go_ret
   refine⟨ret_int ?_,below_iter (Below.refl _ _) (Nat.le_refl _) _ _⟩;have hall:=Hall.out;rw[List.take_of_length_le (by simp;omega)] at hall;have hl:s.data.toList.length=s.size:=rfl;unfold check;rw[if_pos ⟨by omega,by omega,hall⟩]
end Nm
end Go.Proofs.YtphfmgapiimliaaGreat
namespace Go.Proofs.YtphfmgapiimliaaGreat
namespace Dk
open Go.RowKit
section
variable {w w':World} {S:Nat->Prop} {bd gN gS:Nat} {v:Value} {D:DS}
theorem Cg.gr {c5 bC bD:Nat} {c:ByteArray×ByteArray×Option Nat} {S':Nat->Prop} (h:Cg w S bd gN c5 bC bD c) (hg:Gr S w S' w'):Cg w' S bd gN c5 bC bD c :=
 ⟨hg.blk h.v5 h.n5,hg.blk h.vC h.nC,hg.blk h.vD h.nD,h.n5,h.nC,h.nD⟩
theorem store_val {P:Program} {w:World} {a:Addr} {v old:Value} (h1:v.oneCell'=true) (hc:w.cell? a=some old) (hf:w.frozen? a=false):(store a v).run P w=.ok () (w.setCell a v):=by
 rw[run_store P w a v _ h1,hc];simp[hf]
theorem op_changed (h:Dat w S bd gN gS v D) {c5 bC bD:Nat} (c:ByteArray×ByteArray×Option Nat) (hc:Cg w S bd gN c5 bC bD c) (hf:∀b,c.2.2=some b->D.fl b≠none) (hn:(app c D.now).length<=200) (hl:D.chg.length<=1000000) :
  Calls Tryz.prog 117 #[.pointer (some ⟨bd,0,none⟩),.bool false,.func (.func 118) #[] #[.pointer (some ⟨c5,0,none⟩),.pointer (some ⟨bC,0,none⟩),.pointer (some ⟨bD,0,none⟩)]] w fun e w'=>e=.returned (.int .i64 (opE D))/\ ∃S',DiskAt w' S' bd (opS false (chgD c) D)/\Gr S w S' w' :=
 op_dat false 118 #[] #[.pointer (some ⟨c5,0,none⟩),.pointer (some ⟨bC,0,none⟩),.pointer (some ⟨bD,0,none⟩)] (chgD c) h (enters_of Tryz.func118 (by kernel_rfl) rfl)
  fun w1 h1 g1=>changed1_any h1 c (hc.gr g1) hf hn hl
set_option maxHeartbeats 3200000 in
set_option maxRecDepth 100000 in
theorem changed_any (h:DiskAt w S bd D) (c:ByteArray×ByteArray×Option Nat) (hf:∀b,c.2.2=some b->D.fl b≠none) (hn:(app c D.now).length<=200) (hl:D.chg.length<=1000000) :
  Calls Tryz.prog 71 #[.pointer (some ⟨bd,0,none⟩),cagg c] w fun e w'=>e=.returned (.int .i64 (opE D))/\ ∃S',DiskAt w' S' bd (opS false (chgD c) D)/\Gr S w S' w':=by
 obtain⟨gN,gS,v,h⟩:=h;have c0:=h.c0;have lb:=h.box.lt;have HO:=Lib.hid (show ∀wx,wx=((w.alloc (.cells #[.pointer (some ⟨bd,0,none⟩)] 50)).alloc (.cells #[.string c.1,.string c.2.1,chv c.2.2] 113)).alloc (.cells #[.func (.func 116) #[.map (some gN)] #[]] 164) ->
   Calls Tryz.prog 117 #[.pointer (some ⟨bd,0,none⟩),.bool false,.func (.func 118) #[] #[.pointer (some ⟨w.heap.size+1+1,0,none⟩),.pointer (some ⟨w.heap.size+1,0,none⟩),.pointer (some ⟨w.heap.size,0,none⟩)]] wx fun e w'=>e=.returned (.int .i64 (opE D))/\ ∃S',DiskAt w' S' bd (opS false (chgD c) D)/\Gr S w S' w' from by
  rintro wx rfl;have e3:=((ext_alloc w (.cells #[.pointer (some ⟨bd,0,none⟩)] 50)).trans ((ext_alloc (w.alloc (.cells #[.pointer (some ⟨bd,0,none⟩)] 50)) (.cells #[.string c.1,.string c.2.1,chv c.2.2] 113)).mono (by simp))).trans
   ((ext_alloc ((w.alloc (.cells #[.pointer (some ⟨bd,0,none⟩)] 50)).alloc (.cells #[.string c.1,.string c.2.1,chv c.2.2] 113)) (.cells #[.func (.func 116) #[.map (some gN)] #[]] 164)).mono (by simp;omega))
  refine(op_changed (h.ext e3) c ⟨?_,(blk_second _ _ _ _).alloc _,((Blk.new w _ _).alloc _).alloc _,h.gt (by omega),h.gt (by omega),h.gt (Nat.le_refl _)⟩ hf hn hl).mono ?_
  ·have:=blk_second (w.alloc (.cells #[.pointer (some ⟨bd,0,none⟩)] 50)) (.cells #[.string c.1,.string c.2.1,chv c.2.2] 113) #[.func (.func 116) #[.map (some gN)] #[]] 164
   rwa [show(w.alloc (.cells #[.pointer (some ⟨bd,0,none⟩)] 50)).heap.size+1=w.heap.size+1+1 from by simp] at this
  ·rintro e w' ⟨rfl,S',h2,g2⟩
   exact⟨rfl,S',h2,(Gr.of_below e3).trans g2⟩)
 have hV:=blk_second (w.alloc (.cells #[.pointer (some ⟨bd,0,none⟩)] 50)) (.cells #[.string c.1,.string c.2.1,chv c.2.2] 113) #[.nilFunc] 164;rw[show(w.alloc (.cells #[.pointer (some ⟨bd,0,none⟩)] 50)).heap.size+1=w.heap.size+1+1 from by simp] at hV;have d1:=store_val (P:=Tryz.prog) (v:=.func (.func 116) #[.map (some gN)] #[]) rfl (hV.cell 0 (v:=.nilFunc) rfl) (hV.fz 0);clear h hf hn hl hV;unfold cagg
 go_enter Tryz.func71, Tryz.ntmps71
 go_wp2_with (go_at_call 117;refine(HO.out _ rfl).mono ?_;rintro e5 w5 ⟨rfl,S5,hD5,hG5⟩;have HD5:=Lib.hid hD5;have HG5:=Lib.hid hG5;clear hD5 hG5)
 go_ret
 exact⟨rfl,S5,HD5.out,HG5.out⟩
end
end Dk
end Go.Proofs.YtphfmgapiimliaaGreat
