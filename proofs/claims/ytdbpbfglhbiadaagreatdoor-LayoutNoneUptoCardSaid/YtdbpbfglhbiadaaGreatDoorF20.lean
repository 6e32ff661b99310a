/- Ref6 -/
import Derived.Test.YtdbpbfglhbiadaaGreatDoorF19
import Derived.Test.YtdbpbfglhbiadaaGreatDoorF15
set_option maxHeartbeats 8000000
set_option maxRecDepth 100000
namespace Go.Proofs.YtdbpbfglhbiadaaGreatDoor
open Go.RowKit
theorem Own.lit1 (w:World) (x:Bool):Own (w.alloc (.cells #[.bool x] 4)) bb w.heap.size 4 (.slice (some ⟨w.heap.size,0,none⟩) 1 1) [x]:=
 ⟨_,World.ownsRow_lit w #[.bool x] 1 (Nat.le_refl _) (by unfold maxLen;omega) rfl,Flat.bools [x],λ_ h=>h.elim⟩
structure Pq (q:List Bool) (n k v:Nat):Prop where
 len:q.length=n
 low:q.take k=List.replicate k false
 val:ar (q.drop k)=v
theorem II {q:List Bool} {n k v:Nat} (h:Pq q n (k+1) v) (hk:k<n):Pq q n k (2*v)/\Pq (q.set k true) n k (1+2*v):=by
 obtain⟨h1,h2,h3⟩:=h;have Ny:k<q.length:=by omega
 have h4:q.take k=List.replicate k false:=by
  have:=congrArg (List.take k) h2;rw[List.take_take,Nat.min_eq_left (by omega),List.take_replicate,Nat.min_eq_left (by omega)] at this;exact this
 have h5:df q k=false:=by
  have:=congrArg (λl=>l[k]?) h2;simp only[List.getElem?_take,List.getElem?_replicate] at this;rw[if_pos (by omega),if_pos (by omega)] at this;exact fb this
 refine⟨⟨h1,h4,?_⟩,⟨by simp[h1],?_,?_⟩⟩
 ·rw[dt,h5,h3];simp
 ·rw[List.take_set,List.set_eq_of_length_le (by rw[List.length_take];omega)];exact h4
 ·have e1:df (q.set k true) k=true:=fb (by rw[List.getElem?_set_self Ny]);rw[dt,e1,List.drop_set_of_lt (by omega),h3];rfl
theorem DZ (n:Nat):Pq (List.replicate n false) n n 0:=⟨by simp,by simp,by simp[ar]⟩
def TL (w:World) (q r:List Bool) (en:Ending) (w':World):Prop:=
 ∃v1 v2,en=.returned (.tuple #[v1,v2])/\Own w' bb w.heap.size 4 v1 q/\Own w' bb w.heap.size 4 v2 r/\Below w.heap.size w w'
theorem zl {S S2:Nat->Prop} {A A2:Option Addr} {n c n2 c2:Nat} {xs ys:List Bool} {w:World} (h:RS w S A n c xs) (h2:RS w S2 A2 n2 c2 ys) (hS:∀b,S b->b<w.heap.size) (gL:∀b,S2 b->b<w.heap.size) (hn:n<=137438953472) (hn2:n2<=137438953472) (hd:0<ar ys) : Calls Tryz.prog 174 #[.slice A n c,.slice A2 n2 c2] w (TL w (bits (ar xs/ar ys)) (bits (ar xs%ar ys))):=by
 have H:=zH h;have H2:=zH h2;have HL:=zH h.len;have nF:=zH h2.len;have HS:=zH hS;have HS2:=zH gL;obtain⟨d,Sl⟩:∃d,ar ys=d:=⟨_,rfl⟩;have XU:d<2^n2:=by rw[<-Sl,<-nF.out];exact lv ys
 rw[Sl] at hd;have HD:=zH Sl;have HDP:=zH hd;have HDL:=zH XU;rw[Sl];clear h h2 hS gL Sl hd XU;obtain⟨i0,hi,jw,eL,gN⟩:=info_parts (show(Tryz.prog.info? 4).map (λi=>(i.zero,i.size,i.bytes))=some (some (.bool false),1,1) by kernel_rfl);have HI:=zH hi;have oG:=zH jw;have jm:=zH eL;have j1:=zH gN;clear hi jw eL gN;have hwn:IntKind.i64.wrap ((n:Int)-1)=(n:Int)-1:=by rw[IntKind.wrap_i64]<;>omega
 go_enter Tryz.func174,Tryz.ntmps174;go_wp2_with (refine bJ (α:=Bool) w rfl _ _ 155 rfl rfl w.heap.size i0 (.bool false) Tryz.underlying155 HI.out oG.out jm.out rfl .i64 .i64 (n:Int) (n:Int) n rfl rfl rfl rfl (by rw[j1.out];omega) (by unfold maxLen;omega) (Nat.le_refl _) false bb (λ_ h=>h.elim) (λ_ _=>rfl) ?_; intro w3 uw hg3; have CJ:=zH uw; have kR:=zH ((Below.refl w.heap.size w).grown hg3 (Nat.le_refl _) (λk hk=>by cases hk)); have HG3:=zH (uw.lt w.heap.size rfl).2; clear uw hg3);go_loopw [7,8] (λrv iv wr=>∃(k:Nat) (z:Int) (q:List Bool),k<=n/\iv=.int .i64 z/\z+1=k/\Own wr bb w.heap.size 4 (.slice (some ⟨w.heap.size,0,none⟩) n n) q/\Pq q n k (ar (xs.drop k)/d) /\Own wr bb (w.heap.size+1) 4 rv (bits (ar (xs.drop k)%d))/\Below w.heap.size w wr) (λ_ iv _=>(intOf iv+1).toNat)
 case atStart=>
  have hx:xs.drop n=[]:=List.drop_eq_nil_of_le (by rw[HL.out];exact Nat.le_refl _);refine⟨n,(n:Int)-1,List.replicate n false,Nat.le_refl _,rfl,by omega,CJ.out,?_,?_,kR.out⟩
  ·rw[hx];simpa[ar] using DZ n
  ·rw[hx];show Own _ _ _ _ _ (bits (0%d));rw[Nat.zero_mod,dD];exact Own.nil _ _ _
 case round=>
  obtain⟨k,z,q,hk,rfl,hz,wj,hq,kj,hb⟩:=hrel;have zU:=zH wj;have HQ:=zH hq;have HOR:=zH kj;have HB:=zH hb;have hgw:w.heap.size<wr.heap.size:=(wj.lt w.heap.size rfl).2;have HGW:=zH hgw;obtain⟨A4,n4,c4,rfl,hn4⟩:=kj.slice;have xu:ar (xs.drop k)%d<d:=Nat.mod_lt _ HDP.out;have acK:n4<=n2:=by
   rw[hn4];exact iN (Nat.lt_trans xu HDL.out)
  have HRL:=zH xu;have HN4:=zH acK;clear wj hq kj hb hn4 hgw xu acK;rcases k with _|k
  ·obtain rfl:z= -1:=by omega
   have hqf:ar q=ar xs/d:=by have:=HQ.out.val;simpa using this
   have Ep:bits (ar (xs.drop 0)%d)=bits (ar xs%d):=by rw[List.drop_zero]
   have bw:=iH zU.out.rsAll (by omega);rw[hqf] at bw;have HC:=zH bw;have TQ:=zH Ep;clear bw hqf Ep hz;go_wp2_with fail;refine HC.out.mono ?_;rintro e w5 ⟨v5,rfl,Se,zN⟩;have Ku:=zH (Se.base_le HB.out.size);have HO6:=zH ((HOR.out.below zN).base_le (base':=w.heap.size) (by omega));have Hs:=zH (ak HB.out zN);clear Se zN;go_wp2_with fail;go_ret2
   exact⟨_,_,rfl,Ku.out,by rw[<-TQ.out];exact HO6.out,Hs.out⟩
  ·obtain rfl:z=k:=by omega
   have ND:(0<=(k:Int))=True:=eq_true (by omega);have hwk:IntKind.i64.wrap ((k:Int)-1)=(k:Int)-1:=by rw[IntKind.wrap_i64]<;>omega
   obtain⟨b,o,x,rfl,zO,hx,e1⟩:=(H.out.below HB.out HS.out).bool_at (k:=k) (by omega);have NA:(k:Int)<(n:Int):=by omega
   have nP:(k:Int)<=(c:Int):=by have:=H.out.cap;omega
   have cA:=dt xs k;rw[fb hx] at cA;obtain⟨ρ,hρ⟩:∃ρ,ar (xs.drop (k+1))%d=ρ:=⟨_,rfl⟩;obtain⟨α,hα⟩:∃α,ar (xs.drop (k+1))/d=α:=⟨_,rfl⟩;have Zx:=zH (show ρ<d by rw[<-hρ];exact HRL.out);have hdv:=S3 (A:=ar (xs.drop (k+1))) (d:=d) (q:=α) (r:=ρ) x.toNat (by rw[<-hα,<-hρ,Nat.mul_comm];exact(Nat.div_add_mod _ _).symm) (by rw[<-hρ];exact HRL.out) (by cases x<;>simp);rw[<-cA] at hdv;have vJ:ar ([x]++bits ρ)=x.toNat+2*ρ:=by show ar (x::bits ρ)=_;rw[ar,bh]
   have GH:=II HQ.out (by omega:k<n);rw[hα] at GH;have HDN:=zH GH;have HDV:=zH hdv;have Px:=zH vJ;have kj:=HOR.out;rw[hρ] at kj;have akw:=zH kj;have Zz:=zH (Own.lit1 wr x);have eP:=zH (HB.out.alloc HB.out.size (.cells #[.bool x] 4));have HLR:=zH kj.rsAll.len;clear cA hρ hα hdv vJ GH kj hx HOR;go_wp2_with (at_builtin; have Ji:=akw.out.rsAll.below ((Below.refl wr.heap.size wr).alloc (Nat.le_refl _) (.cells #[.bool x] 4)) (λ_ h=>h); refine fx (α:=Bool) (S:=bb) rfl _ _ 155 rfl 1 Tryz.bitsTy rfl Zz.out rfl Ji _ (Flat.bools _) Ji.boolsAt (nk _) (by rw[HLR.out];have:=HN4.out;simp;omega) (by simp) ?_; intro w6 w7 hown2 hg2 qH; have HO7:=zH hown2; have HB7:=zH (((Below.refl wr.heap.size wr).alloc (Nat.le_refl _) (.cells #[.bool x] 4)).grown hg2 (by simp) (λk hk=>(Zz.out.lt k hk).1)); obtain⟨A7,n7,c7,rfl,hn7⟩:=hown2.slice; have bw:=iH hown2.rsAll (by rw[<-hown2.rsAll.len,List.length_append,HLR.out];have:=HN4.out;simp;omega); rw[Px.out] at bw; have HC:=zH bw; clear hown2 hg2 qH Ji hn7 bw);refine HC.out.mono ?_;rintro e w8 ⟨v8,rfl,ho8,UY⟩;obtain⟨A8,n8,c8,rfl,hn8⟩:=ho8.slice;have HB8:=zH (ak HB7.out UY);have HO8:=zH ho8;have Ya:=ak HB.out HB8.out;have X3:=G0 ho8.rsAll (H2.out.below Ya HS2.out);rw[bh,HD.out] at X3;have HCM:=zH X3;have TZ:=zH Ya;have lJ:w.heap.size+1<=w8.heap.size:=Nat.le_trans HGW.out HB8.out.size;have ade:=HB8.out;have CP:w.heap.size+1<=w7.heap.size:=Nat.le_trans HGW.out HB7.out.size;have akz:=zH (ho8.base_le CP);have ad9:=zH (zU.out.below ade);have HN8:=zH (show n8<=n2+1 by
    rw[hn8];refine iN ?_;have h1:=Zx.out;have h2:=HDL.out;have h3:=Bool.toNat_le x;rw[Nat.pow_succ];omega)
   have Ff:=zH lJ;clear ho8 UY X3 Ya hn8 ade lJ CP;obtain⟨t,ht⟩:∃t,jD (x.toNat+2*ρ) d=t:=⟨_,rfl⟩;have P2:=HCM.out;rw[ht] at P2;have akR:=zH P2;clear P2 HCM;go_wp2_with fail;refine akR.out.mono ?_;rintro e w' ⟨rfl,rfl⟩;rcases Nat.lt_or_ge (x.toNat+2*ρ) d with hlt|hge
   ·have ht1:t= -1:=by rw[<-ht];exact nc hlt
    subst ht1;obtain⟨e1,e2⟩:=HDV.out.2 hlt;have HE1:=zH e1;have HE2:=zH e2;clear ht hlt e1 e2;go_wp2_with fail;go_roundw
    case rel=>exact⟨k,(k:Int)-1,q,by omega,by go_num,by omega,ad9.out,by rw[HE1.out];exact HDN.out.1,by rw[HE2.out];exact akz.out,TZ.out⟩
    case measure=>simp[intOf]
   ·have ht1:(0<=t)=True:=by
     refine eq_true ?_;rw[<-ht];rcases Nat.lt_or_ge d (x.toNat+2*ρ) with h|h
     ·rw[nf h];omega
     ·rw[show x.toNat+2*ρ=d by omega,pH];omega
    obtain⟨e1,e2⟩:=HDV.out.1 hge;have bw:=Qo HO8.out.rsAll (H2.out.below TZ.out HS2.out) (λ_ h=>h) (λb hb=>Nat.lt_of_lt_of_le (HS2.out b hb) TZ.out.size) (by have:=HN8.out;omega) (by rw[bh,HD.out];exact hge);rw[bh,HD.out] at bw;have HC:=zH bw;have HE1:=zH e1;have HE2:=zH e2;clear ht hge e1 e2 bw;go_wp2_with fail;refine HC.out.mono ?_;rintro e w9 ⟨v9,rfl,ho9,hb9⟩;obtain⟨A9,n9,c9,rfl,hn9⟩:=ho9.slice;have HB9:=zH (ak TZ.out hb9);have HO9:=zH (ho9.base_le Ff.out);have Xz:=ad9.out.below hb9;obtain⟨y,hy⟩:∃y,q[k]?=some y:=⟨_,List.getElem?_eq_getElem (by have:=HQ.out.len;omega)⟩;obtain⟨g,u,hA,_,_,_,rY,hfz⟩:=Xz.get1 rfl hy;injection hA with hA
    injection hA with hA
    subst hA;have akx:=zH Xz;clear ho9 hb9 hn9 Xz hy;go_wp2_with fail;go_roundw
    case rel=>exact⟨k,(k:Int)-1,q.set k true,by omega,by go_num,by omega,(akx.out.stored (x:=true) rfl rfl).1,by rw[HE1.out,Nat.add_comm];exact HDN.out.2,by rw[HE2.out];exact HO9.out.setCell (p:=⟨w.heap.size,k,none⟩) (HO9.out.own_ne (by show w.heap.size<w.heap.size+1;omega)) (λ_ h=>h.elim) _,HB9.out.setCell (p:=⟨w.heap.size,k,none⟩) (Nat.le_refl _) _⟩
    case measure=>simp[intOf]
end Go.Proofs.YtdbpbfglhbiadaaGreatDoor
