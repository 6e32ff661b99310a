/- Ref6 -/
import Derived.Test.YtjlhbfbdcfajfaaGreatDoorV17
import Derived.Test.YtjlhbfbdcfajfaaGreatDoorV18
set_option maxHeartbeats 8000000
set_option maxRecDepth 100000
namespace Go.Proofs.YtjlhbfbdcfajfaaGreatDoor
open Go.RowKit
theorem Own.lit1 (w:World) (x:Bool):Own (w.alloc (.cells #[.bool x] 4)) bq w.heap.size 4 (.slice (some ⟨w.heap.size,0,none⟩) 1 1) [x]:=
 ⟨_,World.ownsRow_lit w #[.bool x] 1 (Nat.le_refl _) (by unfold maxLen;omega) rfl,Flat.bools [x],fun _ h=>h.elim⟩
structure PH (q:List Bool) (n k v:Nat):Prop where
 len:q.length=n
 low:q.take k=List.replicate k false
 val:ar (q.drop k)=v
theorem Jr {q:List Bool} {n k v:Nat} (h:PH q n (k+1) v) (hk:k<n):PH q n k (2*v)∧PH (q.set k true) n k (1+2*v):=by
 obtain⟨h1,h2,h3⟩:=h;have J0:k<q.length:=by omega
 have h4:q.take k=List.replicate k false:=by
  have:=congrArg (List.take k) h2;rw[List.take_take,Nat.min_eq_left (by omega),List.take_replicate,Nat.min_eq_left (by omega)] at this;exact this
 have h5:dM q k=false:=by
  have:=congrArg (fun l=>l[k]?) h2;simp only[List.getElem?_take,List.getElem?_replicate] at this;rw[if_pos (by omega),if_pos (by omega)] at this;exact fN this
 refine⟨⟨h1,h4,?_⟩,⟨by simp[h1],?_,?_⟩⟩
 ·rw[dW,h5,h3];simp
 ·rw[List.take_set,List.set_eq_of_length_le (by rw[List.length_take];omega)];exact h4
 ·have e1:dM (q.set k true) k=true:=fN (by rw[List.getElem?_set_self J0]);rw[dW,e1,List.drop_set_of_lt (by omega),h3];rfl
theorem EQ (n:Nat):PH (List.replicate n false) n n 0:=⟨by simp,by simp,by simp[ar]⟩
def TY (w:World) (q r:List Bool) (en:Ending) (w':World):Prop:=
 ∃v1 v2,en=.returned (.tuple #[v1,v2])∧Own w' bq w.heap.size 4 v1 q∧Own w' bq w.heap.size 4 v2 r∧Below w.heap.size w w'
theorem AK {S S2:Nat→Prop} {A A2:Option Addr} {n c n2 c2:Nat} {xs ys:List Bool} {w:World} (h:RS w S A n c xs) (h2:RS w S2 A2 n2 c2 ys) (hS:∀b,S b→b<w.heap.size) (iC:∀b,S2 b→b<w.heap.size) (hn:n≤137438953472) (hn2:n2≤137438953472) (hd:0<ar ys) : Calls Tryz.prog 113 #[.slice A n c,.slice A2 n2 c2] w (TY w (bits (ar xs/ar ys)) (bits (ar xs%ar ys))):=by
 have H:=zH h;have H2:=zH h2;have HL:=zH h.len;have o0:=zH h2.len;have HS:=zH hS;have HS2:=zH iC;obtain⟨d,Sx⟩:∃d,ar ys=d:=⟨_,rfl⟩;have Xs:d<2^n2:=by rw[←Sx,←o0.out];exact mL ys
 rw[Sx] at hd;have HD:=zH Sx;have HDP:=zH hd;have HDL:=zH Xs;rw[Sx];clear h h2 hS iC Sx hd Xs;obtain⟨i0,hi,kr,fu,iE⟩:=info_parts (show(Tryz.prog.info? 4).map (fun i=>(i.zero,i.size,i.bytes))=some (some (.bool false),1,1) by kernel_rfl);have HI:=zH hi;have pY:=zH kr;have ka:=zH fu;have k8:=zH iE;clear hi kr fu iE;have hwn:IntKind.i64.wrap ((n:Int)-1)=(n:Int)-1:=by rw[IntKind.wrap_i64]<;>omega
 go_enter Tryz.func113,Tryz.ntmps113;go_wp2_with (refine cf (α:=Bool) w rfl _ _ 120 rfl rfl w.heap.size i0 (.bool false) Tryz.underlying120 HI.out pY.out ka.out rfl .i64 .i64 (n:Int) (n:Int) n rfl rfl rfl rfl (by rw[k8.out];omega) (by unfold maxLen;omega) (Nat.le_refl _) false bq (fun _ h=>h.elim) (fun _ _=>rfl) ?_; intro w3 wi hg3; have DX:=zH wi; have mg:=zH ((Below.refl w.heap.size w).grown hg3 (Nat.le_refl _) (fun k hk=>by cases hk)); have HG3:=zH (wi.lt w.heap.size rfl).2; clear wi hg3);go_loopw [7,8] (fun rv iv wr=>∃(k:Nat) (z:Int) (q:List Bool),k≤n∧iv=.int .i64 z∧z+1=k∧Own wr bq w.heap.size 4 (.slice (some ⟨w.heap.size,0,none⟩) n n) q∧PH q n k (ar (xs.drop k)/d) ∧Own wr bq (w.heap.size+1) 4 rv (bits (ar (xs.drop k)%d))∧Below w.heap.size w wr) (fun _ iv _=>(intOf iv+1).toNat)
 case atStart=>
  have hx:xs.drop n=[]:=List.drop_eq_nil_of_le (by rw[HL.out];exact Nat.le_refl _);refine⟨n,(n:Int)-1,List.replicate n false,Nat.le_refl _,rfl,by omega,DX.out,?_,?_,mg.out⟩
  ·rw[hx];simpa[ar] using EQ n
  ·rw[hx];show Own _ _ _ _ _ (bits (0%d));rw[Nat.zero_mod,eh];exact Own.nil _ _ _
 case round=>
  obtain⟨k,z,q,hk,rfl,hz,xE,hq,ly,hb⟩:=hrel;have Bi:=zH xE;have HQ:=zH hq;have HOR:=zH ly;have HB:=zH hb;have hgw:w.heap.size<wr.heap.size:=(xE.lt w.heap.size rfl).2;have HGW:=zH hgw;obtain⟨A4,n4,c4,rfl,hn4⟩:=ly.slice;have yE:ar (xs.drop k)%d<d:=Nat.mod_lt _ HDP.out;have abA:n4≤n2:=by
   rw[hn4];exact jD (Nat.lt_trans yE HDL.out)
  have HRL:=zH yE;have HN4:=zH abA;clear xE hq ly hb hn4 hgw yE abA;rcases k with _|k
  ·obtain rfl:z= -1:=by omega
   have hqf:ar q=ar xs/d:=by have:=HQ.out.val;simpa using this
   have Fc:bits (ar (xs.drop 0)%d)=bits (ar xs%d):=by rw[List.drop_zero]
   have bO:=jw Bi.out.rsAll (by omega);rw[hqf] at bO;have HC:=zH bO;have T9:=zH Fc;clear bO hqf Fc hz;go_wp2_with fail;refine HC.out.mono ?_;rintro e w5 ⟨v5,rfl,Sn,Be⟩;have K7:=zH (Sn.base_le HB.out.size);have HO6:=zH ((HOR.out.below Be).base_le (base':=w.heap.size) (by omega));have IH:=zH (ak HB.out Be);clear Sn Be;go_wp2_with fail;go_ret2
   exact⟨_,_,rfl,K7.out,by rw[←T9.out];exact HO6.out,IH.out⟩
  ·obtain rfl:z=k:=by omega
   have NX:(0≤(k:Int))=True:=eq_true (by omega);have hwk:IntKind.i64.wrap ((k:Int)-1)=(k:Int)-1:=by rw[IntKind.wrap_i64]<;>omega
   obtain⟨b,o,x,rfl,Bf,hx,e1⟩:=(H.out.below HB.out HS.out).bool_at (k:=k) (by omega);have NV:(k:Int)<(n:Int):=by omega
   have gM:(k:Int)≤(c:Int):=by have:=H.out.cap;omega
   have db:=dW xs k;rw[fN hx] at db;obtain⟨ρ,hρ⟩:∃ρ,ar (xs.drop (k+1))%d=ρ:=⟨_,rfl⟩;obtain⟨α,hα⟩:∃α,ar (xs.drop (k+1))/d=α:=⟨_,rfl⟩;have YL:=zH (show ρ<d by rw[←hρ];exact HRL.out);have hdv:=Tk (A:=ar (xs.drop (k+1))) (d:=d) (q:=α) (r:=ρ) x.toNat (by rw[←hα,←hρ,Nat.mul_comm];exact(Nat.div_add_mod _ _).symm) (by rw[←hρ];exact HRL.out) (by cases x<;>simp);rw[←db] at hdv;have xl:ar ([x]++bits ρ)=x.toNat+2*ρ:=by show ar (x::bits ρ)=_;rw[ar,bB]
   have Hu:=Jr HQ.out (by omega:k<n);rw[hα] at Hu;have HDN:=zH Hu;have HDV:=zH hdv;have PP:=zH xl;have ly:=HOR.out;rw[hρ] at ly;have ajl:=zH ly;have YN:=zH (Own.lit1 wr x);have fy:=zH (HB.out.alloc HB.out.size (.cells #[.bool x] 4));have HLR:=zH ly.rsAll.len;clear db hρ hα hdv xl Hu ly hx HOR;go_wp2_with (at_builtin; have JV:=ajl.out.rsAll.below ((Below.refl wr.heap.size wr).alloc (Nat.le_refl _) (.cells #[.bool x] 4)) (fun _ h=>h); refine gb (α:=Bool) (S:=bq) rfl _ _ 120 rfl 1 Tryz.bitsTy rfl YN.out rfl JV _ (Flat.bools _) JV.boolsAt (oL _) (by rw[HLR.out];have:=HN4.out;simp;omega) (by simp) ?_; intro w6 w7 hown2 hg2 sR; have HO7:=zH hown2; have HB7:=zH (((Below.refl wr.heap.size wr).alloc (Nat.le_refl _) (.cells #[.bool x] 4)).grown hg2 (by simp) (fun k hk=>(YN.out.lt k hk).1)); obtain⟨A7,n7,c7,rfl,hn7⟩:=hown2.slice; have bO:=jw hown2.rsAll (by rw[←hown2.rsAll.len,List.length_append,HLR.out];have:=HN4.out;simp;omega); rw[PP.out] at bO; have HC:=zH bO; clear hown2 hg2 sR JV hn7 bO);refine HC.out.mono ?_;rintro e w8 ⟨v8,rfl,ho8,U2⟩;obtain⟨A8,n8,c8,rfl,hn8⟩:=ho8.slice;have HB8:=zH (ak HB7.out U2);have HO8:=zH ho8;have XG:=ak HB.out HB8.out;have XA:=Ik ho8.rsAll (H2.out.below XG HS2.out);rw[bB,HD.out] at XA;have HCM:=zH XA;have Uh:=zH XG;have nc:w.heap.size+1≤w8.heap.size:=Nat.le_trans HGW.out HB8.out.size;have ab5:=HB8.out;have D2:w.heap.size+1≤w7.heap.size:=Nat.le_trans HGW.out HB7.out.size;have ajo:=zH (ho8.base_le D2);have ac5:=zH (Bi.out.below ab5);have HN8:=zH (show n8≤n2+1 by
    rw[hn8];refine jD ?_;have h1:=YL.out;have h2:=HDL.out;have h3:=Bool.toNat_le x;rw[Nat.pow_succ];omega)
   have F0:=zH nc;clear ho8 U2 XA XG hn8 ab5 nc D2;obtain⟨t,ht⟩:∃t,kA (x.toNat+2*ρ) d=t:=⟨_,rfl⟩;have K1:=HCM.out;rw[ht] at K1;have ajG:=zH K1;clear K1 HCM;go_wp2_with fail;refine ajG.out.mono ?_;rintro e w' ⟨rfl,rfl⟩;rcases Nat.lt_or_ge (x.toNat+2*ρ) d with hlt|hge
   ·have ht1:t= -1:=by rw[←ht];exact oI hlt
    subst ht1;obtain⟨e1,e2⟩:=HDV.out.2 hlt;have HE1:=zH e1;have HE2:=zH e2;clear ht hlt e1 e2;go_wp2_with fail;go_roundw
    case rel=>exact⟨k,(k:Int)-1,q,by omega,by go_num,by omega,ac5.out,by rw[HE1.out];exact HDN.out.1,by rw[HE2.out];exact ajo.out,Uh.out⟩
    case measure=>simp[intOf]
   ·have ht1:(0≤t)=True:=by
     refine eq_true ?_;rw[←ht];rcases Nat.lt_or_ge d (x.toNat+2*ρ) with h|h
     ·rw[oJ h];omega
     ·rw[show x.toNat+2*ρ=d by omega,rj];omega
    obtain⟨e1,e2⟩:=HDV.out.1 hge;have bO:=Qy HO8.out.rsAll (H2.out.below Uh.out HS2.out) (fun _ h=>h) (fun b hb=>Nat.lt_of_lt_of_le (HS2.out b hb) Uh.out.size) (by have:=HN8.out;omega) (by rw[bB,HD.out];exact hge);rw[bB,HD.out] at bO;have HC:=zH bO;have HE1:=zH e1;have HE2:=zH e2;clear ht hge e1 e2 bO;go_wp2_with fail;refine HC.out.mono ?_;rintro e w9 ⟨v9,rfl,ho9,hb9⟩;obtain⟨A9,n9,c9,rfl,hn9⟩:=ho9.slice;have HB9:=zH (ak Uh.out hb9);have HO9:=zH (ho9.base_le F0.out);have Xa:=ac5.out.below hb9;obtain⟨y,hy⟩:∃y,q[k]?=some y:=⟨_,List.getElem?_eq_getElem (by have:=HQ.out.len;omega)⟩;obtain⟨g,u,hA,_,_,_,uh,hfz⟩:=Xa.get1 rfl hy;injection hA with hA
    injection hA with hA
    subst hA;have ajm:=zH Xa;clear ho9 hb9 hn9 Xa hy;go_wp2_with fail;go_roundw
    case rel=>exact⟨k,(k:Int)-1,q.set k true,by omega,by go_num,by omega,(ajm.out.stored (x:=true) rfl rfl).1,by rw[HE1.out,Nat.add_comm];exact HDN.out.2,by rw[HE2.out];exact HO9.out.setCell (p:=⟨w.heap.size,k,none⟩) (HO9.out.own_ne (by show w.heap.size<w.heap.size+1;omega)) (fun _ h=>h.elim) _,HB9.out.setCell (p:=⟨w.heap.size,k,none⟩) (Nat.le_refl _) _⟩
    case measure=>simp[intOf]
end Go.Proofs.YtjlhbfbdcfajfaaGreatDoor
