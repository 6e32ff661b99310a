/- Sl -/
import Derived.Test.YtichkplomldgiaaGreatDoorJ06
import Derived.Test.YtichkplomldgiaaGreatDoorChecked
import Derived.Test.YtichkplomldgiaaGreatDoorJ01
import Derived.Test.YtichkplomldgiaaGreatDoorJ03
set_option maxHeartbeats 4000000
set_option maxRecDepth 100000
namespace Go.Proofs.YtichkplomldgiaaGreatDoor
open Go.RowKit
section
variable {S S2:Nat->Prop} {A A2:Option Addr} {n c n2 c2:Nat} {w:World}
theorem RS.strCells {xs:List ByteArray} {b o:Nat} (h:RS w S (some ⟨b,o,none⟩) n c xs):∀j,j<xs.length->w.cell? ⟨b,o+j,none⟩=some (.string (xs.getD j ByteArray.empty)):=by
 intro j hj;obtain⟨b',o',x,e,_,hx,hc⟩:=h.str_at (k:=j) (by rw[<-h.len];exact hj);injection e with e;injection e with e1 e2
 subst e1 e2;rw[List.getD_eq_getElem?_getD,hx];exact hc
theorem RS.intCells {xs:List Int} {b o:Nat} (h:RS w S (some ⟨b,o,none⟩) n c xs):∀j,j<xs.length->w.cell? ⟨b,o+j,none⟩=some (.int .i64 (xs.getD j 0)):=by
 intro j hj;obtain⟨b',o',x,e,_,hx,hc⟩:=h.int_at (k:=j) (by rw[<-h.len];exact hj);injection e with e;injection e with e1 e2
 subst e1 e2;rw[List.getD_eq_getElem?_getD,hx];exact hc
theorem RS.some_of {α:Type} [ak α] {xs:List α} (h:RS w S A n c xs) (hn:0<n):∃b o,A=some ⟨b,o,none⟩:=by
 obtain⟨_,_,_,h3⟩:=h;obtain⟨b,o,e,_⟩:=h3 hn;exact⟨b,o,e⟩
theorem RS.nil_of {α:Type} [ak α] {xs:List α} (h:RS w S A 0 c xs):xs=[]:=List.length_eq_zero_iff.1 h.len
theorem Ig {xs:List ByteArray} (h:RS w S A n c xs) (x:ByteArray):Calls Tryz.prog 112 #[.slice A n c,.string x] w (uM w (.int .i64 (Lib.idxOfS xs x))):=by
 rcases Nat.eq_zero_or_pos n with rfl|hn
 ·rw[h.nil_of];exact(Tryz.slices_Index_string_empty A c x w).mono λe w' h=>⟨h.1,h.2.symm⟩
 ·obtain⟨b,o,rfl⟩:=h.some_of hn;have:=Tryz.slices_Index_string b o n c xs x w (by rw[h.len];exact Nat.le_refl _) h.max h.strCells;rw[List.take_of_length_le (by rw[h.len];exact Nat.le_refl _)] at this;exact this.mono λe w' h=>⟨h.1,h.2.symm⟩
theorem su {xs:List ByteArray} (h:RS w S A n c xs) (x:ByteArray):Calls Tryz.prog 160 #[.slice A n c,.string x] w (uM w (.bool (Lib.containsS xs x))):=by
 rcases Nat.eq_zero_or_pos n with rfl|hn
 ·rw[h.nil_of];exact(Tryz.slices_Contains_string_empty A c x w).mono λe w' h=>⟨by rw[h.1];rfl,h.2.symm⟩
 ·obtain⟨b,o,rfl⟩:=h.some_of hn;have:=Tryz.slices_Contains_string b o n c xs x w (by rw[h.len];exact Nat.le_refl _) h.max h.strCells;rw[List.take_of_length_le (by rw[h.len];exact Nat.le_refl _)] at this;exact this.mono λe w' h=>⟨h.1,h.2.symm⟩
theorem qe {xs ys:List ByteArray} (h:RS w S A n c xs) (h2:RS w S2 A2 n2 c2 ys):Calls Tryz.prog 82 #[.slice A n c,.slice A2 n2 c2] w (Fz w (.bool (decide (xs=ys)))):=by
 rcases Nat.eq_zero_or_pos n with rfl|hn
 ·rw[h.nil_of];refine(Tryz.slices_Equal_string_empty A A2 c n2 c2 w h2.max).mono λe w' q=>⟨?_,0,q.2⟩;rw[q.1];congr 2
  rw[decide_eq_decide,<-h2.len,List.length_eq_zero_iff];exact eq_comm
 ·obtain⟨b,o,rfl⟩:=h.some_of hn;rcases Nat.eq_zero_or_pos n2 with rfl|hn2
  ·have hne:xs≠[]:=λe=>by have:=h.len;rw[e] at this;simp at this;omega
   rw[h2.nil_of,decide_eq_false hne];go_enter Tryz.func82,Tryz.ntmps82;have hd:((n:Int) !=((0:Nat):Int))=true:=by simp;omega
   go_wp2_with fail;go_ret
   exact⟨rfl,0,rfl⟩
  ·obtain⟨b2,o2,rfl⟩:=h2.some_of hn2;have:=Tryz.slices_Equal_string b o n c b2 o2 n2 c2 xs ys w (by rw[h.len];exact Nat.le_refl _) (by rw[h2.len];exact Nat.le_refl _) h.max h2.max h.strCells h2.strCells;rw[List.take_of_length_le (by rw[h.len];exact Nat.le_refl _),List.take_of_length_le (by rw[h2.len];exact Nat.le_refl _)] at this;exact this
theorem qg {xs ys:List Int} (h:RS w S A n c xs) (h2:RS w S2 A2 n2 c2 ys):Calls Tryz.prog 47 #[.slice A n c,.slice A2 n2 c2] w (Fz w (.bool (decide (xs=ys)))):=by
 rcases Nat.eq_zero_or_pos n with rfl|hn
 ·rw[h.nil_of];refine(Tryz.slices_Equal_int_empty A A2 c n2 c2 w h2.max).mono λe w' q=>⟨?_,0,q.2⟩;rw[q.1];congr 2
  rw[decide_eq_decide,<-h2.len,List.length_eq_zero_iff];exact eq_comm
 ·obtain⟨b,o,rfl⟩:=h.some_of hn;rcases Nat.eq_zero_or_pos n2 with rfl|hn2
  ·have hne:xs≠[]:=λe=>by have:=h.len;rw[e] at this;simp at this;omega
   rw[h2.nil_of,decide_eq_false hne];go_enter Tryz.func47,Tryz.ntmps47;have hd:((n:Int) !=((0:Nat):Int))=true:=by simp;omega
   go_wp2_with fail;go_ret
   exact⟨rfl,0,rfl⟩
  ·obtain⟨b2,o2,rfl⟩:=h2.some_of hn2;have:=Tryz.slices_Equal_int b o n c b2 o2 n2 c2 xs ys w (by rw[h.len];exact Nat.le_refl _) (by rw[h2.len];exact Nat.le_refl _) h.max h2.max h.intCells h2.intCells;rw[List.take_of_length_le (by rw[h.len];exact Nat.le_refl _),List.take_of_length_le (by rw[h2.len];exact Nat.le_refl _)] at this;refine this.mono λe w' q=>⟨?_,q.2⟩;rw[q.1];congr 2
   rw[Bool.eq_iff_iff,beq_iff_eq,decide_eq_true_iff]
theorem C8 {w:World} {base:Nat} {v:Value} {xs:List ByteArray} (h:w.ownsRow base 9 1 v xs.length (xs.map Value.string)):Own w ba base 9 v xs:=
 ⟨_,h,Flat.strs xs,λ_ h=>h.elim⟩
theorem AZ {xs:List ByteArray} (h:RS w S A n c xs) (hn:n<=1099511627776):Calls Tryz.prog 125 #[.slice A n c] w (lE w 9 xs):=by
 rcases Nat.eq_zero_or_pos n with rfl|hn0
 ·rw[h.nil_of];cases A with
  | none=>exact(Tryz.slices_Clone_string_nil 0 c w).mono λe w' q=>⟨_,q.1,Own.nil _ _ _,by rw[q.2];exact Below.refl _ _⟩
  | some a=>exact(Tryz.slices_Clone_string_zero a c w).mono λe w' ⟨v,q1,q2,_,q4⟩=>⟨v,q1,C8 (xs:=[]) q2,q4⟩
 ·obtain⟨b,o,rfl⟩:=h.some_of hn0;have:=Tryz.slices_Clone_string b o n c xs w (by rw[h.len];exact Nat.le_refl _) (by omega) h.strCells;rw[List.take_of_length_le (by rw[h.len];exact Nat.le_refl _)] at this;refine this.mono λe w' ⟨v,q1,q2,_,q4⟩=>⟨v,q1,C8 ?_,q4⟩;rw[h.len];exact q2
end
end Go.Proofs.YtichkplomldgiaaGreatDoor
