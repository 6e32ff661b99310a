/- Tbl Src2 Src3 -/
import Derived.Test.YtdbpbfglhbiadaaGreatDoorChecked
import Derived.Test.YtdbpbfglhbiadaaGreatDoorH01
import Derived.Lib.ItoaNum
import Derived.Lib.LaidTab
import Derived.Test.YtdbpbfglhbiadaaGreatDoorH06
set_option maxHeartbeats 4000000
set_option maxRecDepth 100000
namespace Go.Proofs.YtdbpbfglhbiadaaGreatDoor
open Go.RowKit
def Ei (B:Nat) (w:World):Prop:=∀w',Below B w w'->Lib.TabIs Tryz.prog w' "internal/strconv.uint64pow10" .u64 Lib.pow10Tab
theorem Ei.keep {B:Nat} {w w':World} (h:Ei B w) (hb:Below B w w'):Ei B w':=λw2 h2=>h w2 (hb.trans h2)
theorem Ei.up {B:Nat} {w w':World} (h:Ei B w) (hB:B<=w.heap.size) (hb:Below w.heap.size w w'):Ei B w':=h.keep (hb.mono hB)
theorem UR {B:Nat} {w:World} (h:Ei B w) (n:Int) (h0:-9223372036854775808<=n) (h1:n<=9223372036854775807):Calls Tryz.prog 124 #[.int .i64 n] w (kB w (.string (tj n))):=
 (Tryz.strconv_Itoa n h0 h1 w (h w (Below.refl _ _))).mono λe w' hh=>by
  obtain⟨he,k,os,rfl⟩:=hh;exact⟨he,rfl,rfl,rfl,by show w.heap.size<=(w.heap++os).size;rw[Array.size_append];omega,λj hj=>by show(w.heap++os)[j]?=_;exact Array.getElem?_append_left hj⟩
theorem Own.own_ne {α:Type} [aA α] {w:World} {S:Nat->Prop} {base:Nat} {e:TypeId} {v:Value} {xs:List α} (h:Own w S base e v xs) {g:Nat} (hg:g<base):v.ownBlock≠some g:=λe=>by
 have:=(h.lt g e).1;omega
end Go.Proofs.YtdbpbfglhbiadaaGreatDoor
