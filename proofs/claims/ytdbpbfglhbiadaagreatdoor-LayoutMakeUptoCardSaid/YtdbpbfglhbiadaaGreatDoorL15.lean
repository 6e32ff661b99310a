/- Tbl Src2 Src3 -/
import Derived.Test.YtdbpbfglhbiadaaGreatDoorChecked
import Derived.Test.YtdbpbfglhbiadaaGreatDoorL01
import Derived.Lib.ItoaNum
import Derived.Lib.LaidTab
import Derived.Test.YtdbpbfglhbiadaaGreatDoorL04
set_option maxHeartbeats 8000000
set_option maxRecDepth 100000
namespace Go.Proofs.YtdbpbfglhbiadaaGreatDoor
open Go.RowKit
def Mt (B:Nat) (w:World):Prop:=∀w',Below B w w'→Lib.TabIs Tryz.prog w' "internal/strconv.uint64pow10" .u64 Lib.pow10Tab
theorem Mt.keep {B:Nat} {w w':World} (h:Mt B w) (hb:Below B w w'):Mt B w':=fun w2 h2=>h w2 (hb.trans h2)
theorem Mt.up {B:Nat} {w w':World} (h:Mt B w) (hB:B≤w.heap.size) (hb:Below w.heap.size w w'):Mt B w':=h.keep (hb.mono hB)
theorem Uz {B:Nat} {w:World} (h:Mt B w) (n:Int) (h0:-9223372036854775808≤n) (h1:n≤9223372036854775807):Calls Tryz.prog 124 #[.int .i64 n] w (jZ w (.string (rY n))):=
 (Tryz.strconv_Itoa n h0 h1 w (h w (Below.refl _ _))).mono fun e w' hh=>by
  obtain⟨he,k,os,rfl⟩:=hh;exact⟨he,rfl,rfl,rfl,by show w.heap.size≤(w.heap++os).size;rw[Array.size_append];omega,fun j hj=>by show(w.heap++os)[j]?=_;exact Array.getElem?_append_left hj⟩
theorem Own.own_ne {α:Type} [aF α] {w:World} {S:Nat→Prop} {base:Nat} {e:TypeId} {v:Value} {xs:List α} (h:Own w S base e v xs) {g:Nat} (hg:g<base):v.ownBlock≠some g:=fun e=>by
 have:=(h.lt g e).1;omega
end Go.Proofs.YtdbpbfglhbiadaaGreatDoor
