/- Sl2 -/
import Derived.Test.YtichkplomldgiaaGreatDoorJ09
import Derived.Test.YtichkplomldgiaaGreatDoorJ03
import Derived.Lib.OwnBridge
set_option maxHeartbeats 4000000
set_option maxRecDepth 100000
namespace Go.Proofs.YtichkplomldgiaaGreatDoor
open Go.RowKit
def S7 (x:UInt8):Value:=.int .u8 (x.toNat:Int)
theorem Flat.bytes_inv {w:World} {S:Nat->Prop} {cs:List Value} {xs:List UInt8} (h:Flat w S cs xs):cs=xs.map S7:=by
 induction h with
 | nil=>rfl
 | @snoc cs ds xs x hf hr ih=>
  have fa:ds=[.int .u8 (x.toNat:Int)]:=hr;rw[ih,fa,List.map_append];rfl
theorem Own.bytes {w:World} {S:Nat->Prop} {base:Nat} {v:Value} {xs:List UInt8} (h:Own w S base 5 v xs):w.ownsRow base 5 1 v xs.length (xs.map S7):=by
 obtain⟨cs,h1,h2,_⟩:=h;rw[<-h2.bytes_inv];exact h1
theorem C9 {w:World} {base:Nat} {v:Value} {xs:List UInt8} (h:w.ownsRow base 5 1 v xs.length (xs.map S7)):Own w ba base 5 v xs:=
 ⟨_,h,Flat.bytes xs,λ_ h=>h.elim⟩
theorem Own.rs8 {α:Type} [ak α] {w:World} {base:Nat} {e:TypeId} {A:Option Addr} {n c:Nat} {xs:List α} (h:Own w ba base e (.slice A n c) xs):RS w (λb=>base<=b/\b<w.heap.size) A n c xs:=h.rs (λ_ h=>h.elim) (λ_ h1 h2=>⟨h1,h2⟩)
theorem tq {w:World} {base B:Nat} {w0:World} {A:Option Addr} {n c:Nat} {xs:List UInt8} (h:Own w ba base 5 (.slice A n c) xs) (hb:Below B w0 w) (hB:B<=base) (hn:n<=9223372036854775807) : Calls Tryz.prog 202 #[.slice A n c] w λe w'=>e=.returned (.tuple #[])/\Own w' ba base 5 (.slice A n c) xs.reverse/\Below B w0 w':=by
 obtain⟨A',n',c',hv,oT⟩:=h.slice;injection hv with _ D5 _
 subst D5;rcases Nat.eq_zero_or_pos n with h0|h0
 ·subst h0;have hx:xs=[]:=List.length_eq_zero_iff.1 oT.symm;subst hx;refine(AnyE.slices_Reverse_empty Tryz.layRev A c w).mono λe w' q=>⟨q.1,?_,?_⟩
  ·rw[q.2];exact h
  ·rw[q.2];exact hb
 ·have hne:Value.slice A n c≠.slice none 0 0:=λe=>by injection e with _ e _;omega
  have iy:=h.bytes;obtain⟨g,cap,hv,hg,_,_,_,_,hH⟩:=Lib.holds_of_ownsRow iy hne;injection hv with e1 e2 e3
  subst e1 e3;have:=AnyE.slices_Reverse Tryz.layRev S7 (λ_=>rfl) g 0 c xs w hH (by omega);rw[<-oT] at this;refine this.mono ?_;rintro e w' ⟨rfl,q,rfl⟩;refine⟨rfl,?_,Lib.below_putRow hb (by omega)⟩;rw[<-oT] at iy;have h2:=Lib.ownsRow_putRow (q:=q) (k:=n) (ys:=xs.reverse) iy (by simpa using oT.symm) (Nat.le_refl _);rw[List.take_of_length_le (by simp;omega)] at h2;refine C9 ?_;rw[List.length_reverse,<-oT];exact h2
theorem RS.boolCells {S:Nat->Prop} {w:World} {n c:Nat} {xs:List Bool} {b o:Nat} (h:RS w S (some ⟨b,o,none⟩) n c xs):∀j,j<xs.length->w.cell? ⟨b,o+j,none⟩=some (.bool xs[j]!):=by
 intro j hj;obtain⟨b',o',x,cs,e,_,hx,hr,hc⟩:=h.at_ (k:=j) (by rw[<-h.len];exact hj);injection e with e;injection e with e1 e2
 subst e1 e2;have fa:cs=[.bool x]:=hr;subst fa;have wj:xs[j]! = x:=by
  rw[List.getElem!_eq_getElem?_getD,hx];rfl
 rw[wj];simpa[ak.sz] using hc 0 _ rfl
theorem RS.limbCells {S:Nat->Prop} {w:World} {n c:Nat} {xs:List (BitVec 32)} {b o:Nat} (h:RS w S (some ⟨b,o,none⟩) n c xs):∀j,j<(xs.map λx=>(x.toNat:Int)).length->w.cell? ⟨b,o+j,none⟩=some (.int .u32 (xs.map λx=>(x.toNat:Int))[j]!):=by
 intro j hj;rw[List.length_map] at hj;obtain⟨b',o',x,e,_,hx,hc⟩:=h.limb_at (k:=j) (by rw[<-h.len];exact hj);injection e with e;injection e with e1 e2
 subst e1 e2;have wj:(xs.map λx=>(x.toNat:Int))[j]! = (x.toNat:Int):=by
  rw[List.getElem!_eq_getElem?_getD,List.getElem?_map,hx];rfl
 rw[wj];exact hc
theorem IC {S:Nat->Prop} {w:World} {A:Option Addr} {n c:Nat} {xs:List Bool} (h:RS w S A n c xs) (x:Bool):Calls Tryz.prog 115 #[.slice A n c,.bool x] w (uM w (.bool (xs.contains x))):=by
 rcases Nat.eq_zero_or_pos n with rfl|hn
 ·rw[h.nil_of];exact(AnyE.slices_Contains_empty Tryz.layHasB A c (.bool x) w).mono λe w' h=>⟨by rw[h.1];rfl,h.2.symm⟩
 ·obtain⟨b,o,rfl⟩:=h.some_of hn;have:=AnyE.slices_Contains Tryz.layHasB Value.bool _ (EqlAt.bool _ Tryz.underlying4) b o n c xs x w (by rw[h.len];exact Nat.le_refl _) h.max h.boolCells;rw[List.take_of_length_le (by rw[h.len];exact Nat.le_refl _)] at this;refine this.mono λe w' q=>⟨?_,q.2.symm⟩;rw[q.1,List.contains_eq_any_beq]
theorem qu {α:Type} [DecidableEq α]:∀(xs ys:List α),Lib.allEq (λx y=>x==y) xs ys=decide (xs=ys)
 | [],[]=>by simp[Lib.allEq]
 | [],y::ys=>by simp[Lib.allEq]
 | x::xs,[]=>by simp[Lib.allEq]
 | x::xs,y::ys=>by
  have:=qu xs ys;simp only[Lib.allEq] at this ⊢;rw[this];by_cases h:x=y<;>by_cases h2:xs=ys<;>simp[h,h2]
theorem pA:∀(xs ys:List (BitVec 32)),(xs.map λx=>(x.toNat:Int))=(ys.map λx=>(x.toNat:Int))↔xs=ys
 | [],[]=>by simp
 | [],y::ys=>by simp
 | x::xs,[]=>by simp
 | x::xs,y::ys=>by
  have h1:=pA xs ys;have h2:(x.toNat:Int)=y.toNat↔x=y:=⟨λh=>BitVec.eq_of_toNat_eq (by omega),λh=>by rw[h]⟩;simp only[List.map_cons,List.cons.injEq,h1,h2]
theorem qf {S S2:Nat->Prop} {w:World} {A A2:Option Addr} {n c n2 c2:Nat} {xs ys:List (BitVec 32)} (h:RS w S A n c xs) (h2:RS w S2 A2 n2 c2 ys):Calls Tryz.prog 131 #[.slice A n c,.slice A2 n2 c2] w (Fz w (.bool (decide (xs=ys)))):=by
 by_cases D5:n=n2
 ·rcases Nat.eq_zero_or_pos n with h0|h0
  ·subst h0;subst D5;have hx:=h.nil_of;have hy:=h2.nil_of;subst hx hy;go_enter Tryz.func131,Tryz.ntmps131;go_wp2_with fail;refine wp_loop_rounds 1 ?_;repeat any_goals (rw[rounds_succ];go_wp2)
   go_ret
   exact⟨rfl,0,rfl⟩
  ·obtain⟨b,o,rfl⟩:=h.some_of h0;obtain⟨b2,o2,rfl⟩:=h2.some_of (by omega);have:=AnyE.slices_Equal Tryz.layEqN (Value.int .u32) _ (NeqAt.int _ _ .u32) b o n c b2 o2 n2 c2 (xs.map λx=>(x.toNat:Int)) (ys.map λx=>(x.toNat:Int)) w (by rw[List.length_map,h.len];exact Nat.le_refl _) (by rw[List.length_map,h2.len];exact Nat.le_refl _) h.max h2.max h.limbCells h2.limbCells;rw[List.take_of_length_le (by rw[List.length_map,h.len];exact Nat.le_refl _),List.take_of_length_le (by rw[List.length_map,h2.len];exact Nat.le_refl _),qu] at this;refine this.mono λe w' q=>⟨?_,q.2⟩;rw[q.1];congr 2
   rw[decide_eq_decide];exact pA xs ys
 ·have hne:xs≠ys:=λe=>by have:=h.len;have:=h2.len;rw[e] at*;omega
  rw[decide_eq_false hne];have hd:((n:Int) !=(n2:Int))=true:=by simp;omega
  have AF:=h.max;have Zr:=h2.max;clear h h2 hne D5;go_enter Tryz.func131,Tryz.ntmps131;go_wp2_with fail;go_ret
  exact⟨rfl,0,rfl⟩
end Go.Proofs.YtichkplomldgiaaGreatDoor
