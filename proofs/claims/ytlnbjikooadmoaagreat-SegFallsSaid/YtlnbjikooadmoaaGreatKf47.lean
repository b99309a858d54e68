/- squash: one byte again and again takes a few bytes: plain lists, no program. squash.Pack, Unpack as their laws use them. What the probes tell: plain lists, no program. -/
import Derived.Test.YtlnbjikooadmoaaGreatKf24
import Derived.Test.YtlnbjikooadmoaaGreatKf40
import Derived.Test.YtlnbjikooadmoaaGreatKf46
namespace Go.Proofs.YtlnbjikooadmoaaGreat
namespace Tb
open Bt
theorem bl_le (n:Nat) (h:n<512):bl n<=9:=by
 rcases Nat.eq_zero_or_pos n with rfl|h0
 ·decide
 ·have:=(bl_spec n h0).1
  rcases Nat.lt_or_ge (bl n) 10 with h9|h9
  ·omega
  ·have:=Nat.pow_le_pow_right (n:=2) (by omega) (show 9<=bl n-1 by omega)
   simp only[show(2:Nat)^9=512 by rfl] at this;omega
end Tb
namespace Sq
open Vi Zr Hf Sx
section
variable {A:List Nat} {n:Nat} {x:UInt8}
end
end Sq
end Go.Proofs.YtlnbjikooadmoaaGreat
namespace Go.Proofs.YtlnbjikooadmoaaGreat
namespace Sq
open Go.RowKit
theorem pack_un (s:ByteArray) (w:World) (hs:s.size<=20000) :
  Calls Tryz.prog 44 #[.string s] w fun e w'=>∃t:ByteArray,∃arr,Sx.Sorted s.data.toList arr/\t=⟨(packed s.data.toList arr).toArray⟩/\t.size<=200000/\e=.returned (.tuple #[.string t,.int .i64 0])/\Below w.heap.size w w':=by
 refine(spack_any s w hs).mono ?_;rintro e w' ⟨arr,hso,rfl,hb⟩;refine⟨_,arr,hso,rfl,?_,rfl,hb⟩;show(packed s.data.toList arr).toArray.size<=_
 rw[List.size_toArray];have h1:=sy_len hso;have h2:=pri_le hso;have hsz:s.data.toList.length=s.size:=rfl;rw[hsz] at h1 h2;have h3:=hbyt_le (sy s.data.toList arr) (by omega)
 have p1:=Vi.length_putV_le s.size 8 (by have:(128:Nat)^(8+1)=9223372036854775808:=by decide
                                         omega)
 have p2:=Vi.length_putV_le (Bw.pri arr) 8 (by have:(128:Nat)^(8+1)=9223372036854775808:=by decide
                                               omega)
 have p3:=Vi.length_putV_le (sy s.data.toList arr).length 8 (by have:(128:Nat)^(8+1)=9223372036854775808:=by decide
                                                                omega)
 unfold packed;rw[List.length_append,List.length_append,List.length_append,hsz];omega
end Sq
end Go.Proofs.YtlnbjikooadmoaaGreat
namespace Go.Proofs.YtlnbjikooadmoaaGreat
namespace Sq
open Sx Vi Zr Hf
instance (s:List UInt8):∀(L p q:Nat),Decidable (less s L p q)
 |0,_,_=>isFalse (fun h=>h)
 |L+1,p,q =>
  have:=instDecidableLess s L (p+1) (q+1)
  by unfold less;exact inferInstance
end Sq
end Go.Proofs.YtlnbjikooadmoaaGreat
