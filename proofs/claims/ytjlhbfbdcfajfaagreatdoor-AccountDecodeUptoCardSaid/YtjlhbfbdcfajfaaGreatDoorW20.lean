/- Ref6 -/
import Derived.Test.YtjlhbfbdcfajfaaGreatDoorW19
import Derived.Test.YtjlhbfbdcfajfaaGreatDoorW15
set_option maxHeartbeats 8000000
set_option maxRecDepth 100000
namespace Go.Proofs.YtjlhbfbdcfajfaaGreatDoor
open Go.RowKit
theorem Own.lit1 (w:World) (x:Bool):Own (w.alloc (.cells #[.bool x] 4)) bw w.heap.size 4 (.slice (some ⟨w.heap.size,0,none⟩) 1 1) [x]:=
 ⟨_,World.ownsRow_lit w #[.bool x] 1 (Nat.le_refl _) (by unfold maxLen;omega) rfl,Flat.bools [x],fun _ h=>h.elim⟩
structure RG (q:List Bool) (n k v:Nat):Prop where
 len:q.length=n
 low:q.take k=List.replicate k false
 val:ar (q.drop k)=v
theorem KG {q:List Bool} {n k v:Nat} (h:RG q n (k+1) v) (hk:k<n):RG q n k (2*v)∧RG (q.set k true) n k (1+2*v):=by
 obtain⟨h1,h2,h3⟩:=h;have Pz:k<q.length:=by omega
 have h4:q.take k=List.replicate k false:=by
  have:=congrArg (List.take k) h2;rw[List.take_take,Nat.min_eq_left (by omega),List.take_replicate,Nat.min_eq_left (by omega)] at this;exact this
 have h5:dT q k=false:=by
  have:=congrArg (fun l=>l[k]?) h2;simp only[List.getElem?_take,List.getElem?_replicate] at this;rw[if_pos (by omega),if_pos (by omega)] at this;exact fY this
 refine⟨⟨h1,h4,?_⟩,⟨by simp[h1],?_,?_⟩⟩
 ·rw[eh,h5,h3];simp
 ·rw[List.take_set,List.set_eq_of_length_le (by rw[List.length_take];omega)];exact h4
 ·have e1:dT (q.set k true) k=true:=fY (by rw[List.getElem?_set_self Pz]);rw[eh,e1,List.drop_set_of_lt (by omega),h3];rfl
theorem F7 (n:Nat):RG (List.replicate n false) n n 0:=⟨by simp,by simp,by simp[ar]⟩
def V1 (w:World) (q r:List Bool) (en:Ending) (w':World):Prop:=
 ∃v1 v2,en=.returned (.tuple #[v1,v2])∧Own w' bw w.heap.size 4 v1 q∧Own w' bw w.heap.size 4 v2 r∧Below w.heap.size w w'
theorem B7 {S S2:Nat→Prop} {A A2:Option Addr} {n c n2 c2:Nat} {xs ys:List Bool} {w:World} (h:RS w S A n c xs) (h2:RS w S2 A2 n2 c2 ys) (hS:∀b,S b→b<w.heap.size) (iN:∀b,S2 b→b<w.heap.size) (hn:n≤137438953472) (hn2:n2≤137438953472) (hd:0<ar ys) : Calls Tryz.prog 113 #[.slice A n c,.slice A2 n2 c2] w (V1 w (bits (ar xs/ar ys)) (bits (ar xs%ar ys))):=by
 have H:=zH h;have H2:=zH h2;have HL:=zH h.len;have pE:=zH h2.len;have HS:=zH hS;have HS2:=zH iN;obtain⟨d,UO⟩:∃d,ar ys=d:=⟨_,rfl⟩;have ZT:d<2^n2:=by rw[←UO,←pE.out];exact m8 ys
 rw[UO] at hd;have HD:=zH UO;have HDP:=zH hd;have HDL:=zH ZT;rw[UO];clear h h2 hS iN UO hd ZT;obtain⟨i0,hi,kG,fH,iP⟩:=info_parts (show(Tryz.prog.info? 4).map (fun i=>(i.zero,i.size,i.bytes))=some (some (.bool false),1,1) by kernel_rfl);have HI:=zH hi;have qJ:=zH kG;have kr:=zH fH;have lA:=zH iP;clear hi kG fH iP;have hwn:IntKind.i64.wrap ((n:Int)-1)=(n:Int)-1:=by rw[IntKind.wrap_i64]<;>omega
 go_enter Tryz.func113,Tryz.ntmps113;go_wp2_with (refine ck (α:=Bool) w rfl _ _ 120 rfl rfl w.heap.size i0 (.bool false) Tryz.underlying120 HI.out qJ.out kr.out rfl .i64 .i64 (n:Int) (n:Int) n rfl rfl rfl rfl (by rw[lA.out];omega) (by unfold maxLen;omega) (Nat.le_refl _) false bw (fun _ h=>h.elim) (fun _ _=>rfl) ?_; intro w3 xm hg3; have E9:=zH xm; have mI:=zH ((Below.refl w.heap.size w).grown hg3 (Nat.le_refl _) (fun k hk=>by cases hk)); have HG3:=zH (xm.lt w.heap.size rfl).2; clear xm hg3);go_loopw [7,8] (fun rv iv wr=>∃(k:Nat) (z:Int) (q:List Bool),k≤n∧iv=.int .i64 z∧z+1=k∧Own wr bw w.heap.size 4 (.slice (some ⟨w.heap.size,0,none⟩) n n) q∧RG q n k (ar (xs.drop k)/d) ∧Own wr bw (w.heap.size+1) 4 rv (bits (ar (xs.drop k)%d))∧Below w.heap.size w wr) (fun _ iv _=>(intOf iv+1).toNat)
 case atStart=>
  have hx:xs.drop n=[]:=List.drop_eq_nil_of_le (by rw[HL.out];exact Nat.le_refl _);refine⟨n,(n:Int)-1,List.replicate n false,Nat.le_refl _,rfl,by omega,E9.out,?_,?_,mI.out⟩
  ·rw[hx];simpa[ar] using F7 n
  ·rw[hx];show Own _ _ _ _ _ (bits (0%d));rw[Nat.zero_mod,ey];exact Own.nil _ _ _
 case round=>
  obtain⟨k,z,q,hk,rfl,hz,yF,hq,lP,hb⟩:=hrel;have Cy:=zH yF;have HQ:=zH hq;have HOR:=zH lP;have HB:=zH hb;have hgw:w.heap.size<wr.heap.size:=(yF.lt w.heap.size rfl).2;have HGW:=zH hgw;obtain⟨A4,n4,c4,rfl,hn4⟩:=lP.slice;have zP:ar (xs.drop k)%d<d:=Nat.mod_lt _ HDP.out;have aew:n4≤n2:=by
   rw[hn4];exact jP (Nat.lt_trans zP HDL.out)
  have HRL:=zH zP;have HN4:=zH aew;clear yF hq lP hb hn4 hgw zP aew;rcases k with _|k
  ·obtain rfl:z= -1:=by omega
   have hqf:ar q=ar xs/d:=by have:=HQ.out.val;simpa using this
   have Gr:bits (ar (xs.drop 0)%d)=bits (ar xs%d):=by rw[List.drop_zero]
   have bR:=jI Cy.out.rsAll (by omega);rw[hqf] at bR;have HC:=zH bR;have V3:=zH Gr;clear bR hqf Gr hz;go_wp2_with fail;refine HC.out.mono ?_;rintro e w5 ⟨v5,rfl,UH,Ct⟩;have Mv:=zH (UH.base_le HB.out.size);have HO6:=zH ((HOR.out.below Ct).base_le (base':=w.heap.size) (by omega));have JX:=zH (ak HB.out Ct);clear UH Ct;go_wp2_with fail;go_ret2
   exact⟨_,_,rfl,Mv.out,by rw[←V3.out];exact HO6.out,JX.out⟩
  ·obtain rfl:z=k:=by omega
   have PF:(0≤(k:Int))=True:=eq_true (by omega);have hwk:IntKind.i64.wrap ((k:Int)-1)=(k:Int)-1:=by rw[IntKind.wrap_i64]<;>omega
   obtain⟨b,o,x,rfl,Cu,hx,e1⟩:=(H.out.below HB.out HS.out).bool_at (k:=k) (by omega);have PD:(k:Int)<(n:Int):=by omega
   have gV:(k:Int)≤(c:Int):=by have:=H.out.cap;omega
   have dl:=eh xs k;rw[fY hx] at dl;obtain⟨ρ,hρ⟩:∃ρ,ar (xs.drop (k+1))%d=ρ:=⟨_,rfl⟩;obtain⟨α,hα⟩:∃α,ar (xs.drop (k+1))/d=α:=⟨_,rfl⟩;have abn:=zH (show ρ<d by rw[←hρ];exact HRL.out);have hdv:=Vl (A:=ar (xs.drop (k+1))) (d:=d) (q:=α) (r:=ρ) x.toNat (by rw[←hα,←hρ,Nat.mul_comm];exact(Nat.div_add_mod _ _).symm) (by rw[←hρ];exact HRL.out) (by cases x<;>simp);rw[←dl] at hdv;have ym:ar ([x]++bits ρ)=x.toNat+2*ρ:=by show ar (x::bits ρ)=_;rw[ar,bE]
   have Jh:=KG HQ.out (by omega:k<n);rw[hα] at Jh;have HDN:=zH Jh;have HDV:=zH hdv;have RP:=zH ym;have lP:=HOR.out;rw[hρ] at lP;have amQ:=zH lP;have HOL:=zH (Own.lit1 wr x);have fL:=zH (HB.out.alloc HB.out.size (.cells #[.bool x] 4));have HLR:=zH lP.rsAll.len;clear dl hρ hα hdv ym Jh lP hx HOR;go_wp2_with (at_builtin; have Le:=amQ.out.rsAll.below ((Below.refl wr.heap.size wr).alloc (Nat.le_refl _) (.cells #[.bool x] 4)) (fun _ h=>h); refine gn (α:=Bool) (S:=bw) rfl _ _ 120 rfl 1 Tryz.bitsTy rfl HOL.out rfl Le _ (Flat.bools _) Le.boolsAt (pd _) (by rw[HLR.out];have:=HN4.out;simp;omega) (by simp) ?_; intro w6 w7 hown2 hg2 tM; have HO7:=zH hown2; have HB7:=zH (((Below.refl wr.heap.size wr).alloc (Nat.le_refl _) (.cells #[.bool x] 4)).grown hg2 (by simp) (fun k hk=>(HOL.out.lt k hk).1)); obtain⟨A7,n7,c7,rfl,hn7⟩:=hown2.slice; have bR:=jI hown2.rsAll (by rw[←hown2.rsAll.len,List.length_append,HLR.out];have:=HN4.out;simp;omega); rw[RP.out] at bR; have HC:=zH bR; clear hown2 hg2 tM Le hn7 bR);refine HC.out.mono ?_;rintro e w8 ⟨v8,rfl,ho8,Xb⟩;obtain⟨A8,n8,c8,rfl,hn8⟩:=ho8.slice;have HB8:=zH (ak HB7.out Xb);have HO8:=zH ho8;have Z9:=ak HB.out HB8.out;have Z2:=JB ho8.rsAll (H2.out.below Z9 HS2.out);rw[bE,HD.out] at Z2;have HCM:=zH Z2;have Wb:=zH Z9;have nJ:w.heap.size+1≤w8.heap.size:=Nat.le_trans HGW.out HB8.out.size;have ae0:=HB8.out;have Ff:w.heap.size+1≤w7.heap.size:=Nat.le_trans HGW.out HB7.out.size;have amT:=zH (ho8.base_le Ff);have af8:=zH (Cy.out.below ae0);have HN8:=zH (show n8≤n2+1 by
    rw[hn8];refine jP ?_;have h1:=abn.out;have h2:=HDL.out;have h3:=Bool.toNat_le x;rw[Nat.pow_succ];omega)
   have Hk:=zH nJ;clear ho8 Xb Z2 Z9 hn8 ae0 nJ Ff;obtain⟨t,ht⟩:∃t,kM (x.toNat+2*ρ) d=t:=⟨_,rfl⟩;have Fo:=HCM.out;rw[ht] at Fo;have anb:=zH Fo;clear Fo HCM;go_wp2_with fail;refine anb.out.mono ?_;rintro e w' ⟨rfl,rfl⟩;rcases Nat.lt_or_ge (x.toNat+2*ρ) d with hlt|hge
   ·have ht1:t= -1:=by rw[←ht];exact o8 hlt
    subst ht1;obtain⟨e1,e2⟩:=HDV.out.2 hlt;have HE1:=zH e1;have HE2:=zH e2;clear ht hlt e1 e2;go_wp2_with fail;go_roundw
    case rel=>exact⟨k,(k:Int)-1,q,by omega,by go_num,by omega,af8.out,by rw[HE1.out];exact HDN.out.1,by rw[HE2.out];exact amT.out,Wb.out⟩
    case measure=>simp[intOf]
   ·have ht1:(0≤t)=True:=by
     refine eq_true ?_;rw[←ht];rcases Nat.lt_or_ge d (x.toNat+2*ρ) with h|h
     ·rw[o9 h];omega
     ·rw[show x.toNat+2*ρ=d by omega,sk];omega
    obtain⟨e1,e2⟩:=HDV.out.1 hge;have bR:=SU HO8.out.rsAll (H2.out.below Wb.out HS2.out) (fun _ h=>h) (fun b hb=>Nat.lt_of_lt_of_le (HS2.out b hb) Wb.out.size) (by have:=HN8.out;omega) (by rw[bE,HD.out];exact hge);rw[bE,HD.out] at bR;have HC:=zH bR;have HE1:=zH e1;have HE2:=zH e2;clear ht hge e1 e2 bR;go_wp2_with fail;refine HC.out.mono ?_;rintro e w9 ⟨v9,rfl,ho9,hb9⟩;obtain⟨A9,n9,c9,rfl,hn9⟩:=ho9.slice;have HB9:=zH (ak Wb.out hb9);have HO9:=zH (ho9.base_le Hk.out);have Zx:=af8.out.below hb9;obtain⟨y,hy⟩:∃y,q[k]?=some y:=⟨_,List.getElem?_eq_getElem (by have:=HQ.out.len;omega)⟩;obtain⟨g,u,hA,_,_,_,uZ,hfz⟩:=Zx.get1 rfl hy;injection hA with hA
    injection hA with hA
    subst hA;have amR:=zH Zx;clear ho9 hb9 hn9 Zx hy;go_wp2_with fail;go_roundw
    case rel=>exact⟨k,(k:Int)-1,q.set k true,by omega,by go_num,by omega,(amR.out.stored (x:=true) rfl rfl).1,by rw[HE1.out,Nat.add_comm];exact HDN.out.2,by rw[HE2.out];exact HO9.out.setCell (p:=⟨w.heap.size,k,none⟩) (HO9.out.own_ne (by show w.heap.size<w.heap.size+1;omega)) (fun _ h=>h.elim) _,HB9.out.setCell (p:=⟨w.heap.size,k,none⟩) (Nat.le_refl _) _⟩
    case measure=>simp[intOf]
end Go.Proofs.YtjlhbfbdcfajfaaGreatDoor
