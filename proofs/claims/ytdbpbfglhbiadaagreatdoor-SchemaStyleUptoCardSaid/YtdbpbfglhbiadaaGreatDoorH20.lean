/- Ref6 -/
import Derived.Test.YtdbpbfglhbiadaaGreatDoorH19
import Derived.Test.YtdbpbfglhbiadaaGreatDoorH15
set_option maxHeartbeats 4000000
set_option maxRecDepth 100000
namespace Go.Proofs.YtdbpbfglhbiadaaGreatDoor
open Go.RowKit
theorem Own.lit1 (w:World) (x:Bool):Own (w.alloc (.cells #[.bool x] 4)) bi w.heap.size 4 (.slice (some ⟨w.heap.size,0,none⟩) 1 1) [x]:=
 ⟨_,World.ownsRow_lit w #[.bool x] 1 (Nat.le_refl _) (by unfold maxLen;omega) rfl,Flat.bools [x],λ_ h=>h.elim⟩
structure RO (q:List Bool) (n k v:Nat):Prop where
 len:q.length=n
 low:q.take k=List.replicate k false
 val:av (q.drop k)=v
theorem Kw {q:List Bool} {n k v:Nat} (h:RO q n (k+1) v) (hk:k<n):RO q n k (2*v)/\RO (q.set k true) n k (1+2*v):=by
 obtain⟨h1,h2,h3⟩:=h;have PQ:k<q.length:=by omega
 have h4:q.take k=List.replicate k false:=by
  have:=congrArg (List.take k) h2;rw[List.take_take,Nat.min_eq_left (by omega),List.take_replicate,Nat.min_eq_left (by omega)] at this;exact this
 have h5:dm q k=false:=by
  have:=congrArg (λl=>l[k]?) h2;simp only[List.getElem?_take,List.getElem?_replicate] at this;rw[if_pos (by omega),if_pos (by omega)] at this;exact ft this
 refine⟨⟨h1,h4,?_⟩,⟨by simp[h1],?_,?_⟩⟩
 ·rw[dF,h5,h3];simp
 ·rw[List.take_set,List.set_eq_of_length_le (by rw[List.length_take];omega)];exact h4
 ·have e1:dm (q.set k true) k=true:=ft (by rw[List.getElem?_set_self PQ]);rw[dF,e1,List.drop_set_of_lt (by omega),h3];rfl
theorem FA (n:Nat):RO (List.replicate n false) n n 0:=⟨by simp,by simp,by simp[av]⟩
def Wy (w:World) (q r:List Bool) (en:Ending) (w':World):Prop:=
 ∃v1 v2,en=.returned (.tuple #[v1,v2])/\Own w' bi w.heap.size 4 v1 q/\Own w' bi w.heap.size 4 v2 r/\Below w.heap.size w w'
theorem Bc {S S2:Nat->Prop} {A A2:Option Addr} {n c n2 c2:Nat} {xs ys:List Bool} {w:World} (h:RS w S A n c xs) (h2:RS w S2 A2 n2 c2 ys) (hS:∀b,S b->b<w.heap.size) (gZ:∀b,S2 b->b<w.heap.size) (hn:n<=137438953472) (hn2:n2<=137438953472) (hd:0<av ys) : Calls Tryz.prog 174 #[.slice A n c,.slice A2 n2 c2] w (Wy w (bits (av xs/av ys)) (bits (av xs%av ys))):=by
 have H:=zH h;have H2:=zH h2;have HL:=zH h.len;have ow:=zH h2.len;have HS:=zH hS;have HS2:=zH gZ;obtain⟨d,Vi⟩:∃d,av ys=d:=⟨_,rfl⟩;have hdl:d<2^n2:=by rw[<-Vi,<-ow.out];exact lP ys
 rw[Vi] at hd;have HD:=zH Vi;have HDP:=zH hd;have HDL:=zH hdl;rw[Vi];clear h h2 hS gZ Vi hd hdl;obtain⟨i0,hi,l9,gC,jR⟩:=info_parts (show(Tryz.prog.info? 4).map (λi=>(i.zero,i.size,i.bytes))=some (some (.bool false),1,1) by kernel_rfl);have HI:=zH hi;have tZ:=zH l9;have mD:=zH gC;have ot:=zH jR;clear hi l9 gC jR;have hwn:IntKind.i64.wrap ((n:Int)-1)=(n:Int)-1:=by rw[IntKind.wrap_i64]<;>omega
 go_enter Tryz.func174,Tryz.ntmps174;go_wp2_with (refine bR (α:=Bool) w rfl _ _ 155 rfl rfl w.heap.size i0 (.bool false) Tryz.underlying155 HI.out tZ.out mD.out rfl .i64 .i64 (n:Int) (n:Int) n rfl rfl rfl rfl (by rw[ot.out];omega) (by unfold maxLen;omega) (Nat.le_refl _) false bi (λ_ h=>h.elim) (λ_ _=>rfl) ?_; intro w3 v7 hg3; have Eu:=zH v7; have lX:=zH ((Below.refl w.heap.size w).grown hg3 (Nat.le_refl _) (λk hk=>by cases hk)); have HG3:=zH (v7.lt w.heap.size rfl).2; clear v7 hg3);go_loopw [7,8] (λrv iv wr=>∃(k:Nat) (z:Int) (q:List Bool),k<=n/\iv=.int .i64 z/\z+1=k/\Own wr bi w.heap.size 4 (.slice (some ⟨w.heap.size,0,none⟩) n n) q/\RO q n k (av (xs.drop k)/d) /\Own wr bi (w.heap.size+1) 4 rv (bits (av (xs.drop k)%d))/\Below w.heap.size w wr) (λ_ iv _=>(intOf iv+1).toNat)
 case atStart=>
  have hx:xs.drop n=[]:=List.drop_eq_nil_of_le (by rw[HL.out];exact Nat.le_refl _);refine⟨n,(n:Int)-1,List.replicate n false,Nat.le_refl _,rfl,by omega,Eu.out,?_,?_,lX.out⟩
  ·rw[hx];simpa[av] using FA n
  ·rw[hx];show Own _ _ _ _ _ (bits (0%d));rw[Nat.zero_mod,dL];exact Own.nil _ _ _
 case round=>
  obtain⟨k,z,q,hk,rfl,hz,xD,hq,kD,hb⟩:=hrel;have BD:=zH xD;have HQ:=zH hq;have HOR:=zH kD;have HB:=zH hb;have hgw:w.heap.size<wr.heap.size:=(xD.lt w.heap.size rfl).2;have HGW:=zH hgw;obtain⟨A4,n4,c4,rfl,hn4⟩:=kD.slice;have yH:av (xs.drop k)%d<d:=Nat.mod_lt _ HDP.out;have afI:n4<=n2:=by
   rw[hn4];exact jd (Nat.lt_trans yH HDL.out)
  have HRL:=zH yH;have HN4:=zH afI;clear xD hq kD hb hn4 hgw yH afI;rcases k with _|k
  ·obtain rfl:z= -1:=by omega
   have hqf:av q=av xs/d:=by have:=HQ.out.val;simpa using this
   have hrf:bits (av (xs.drop 0)%d)=bits (av xs%d):=by rw[List.drop_zero]
   have bG:=i6 BD.out.rsAll (by omega);rw[hqf] at bG;have HC:=zH bG;have HRF:=zH hrf;clear bG hqf hrf hz;go_wp2_with fail;refine HC.out.mono ?_;rintro e w5 ⟨v5,rfl,U9,EH⟩;have HO5:=zH (U9.base_le HB.out.size);have HO6:=zH ((HOR.out.below EH).base_le (base':=w.heap.size) (by omega));have HB5:=zH (au HB.out EH);clear U9 EH;go_wp2_with fail;go_ret2
   exact⟨_,_,rfl,HO5.out,by rw[<-HRF.out];exact HO6.out,HB5.out⟩
  ·obtain rfl:z=k:=by omega
   have PS:(0<=(k:Int))=True:=eq_true (by omega);have hwk:IntKind.i64.wrap ((k:Int)-1)=(k:Int)-1:=by rw[IntKind.wrap_i64]<;>omega
   obtain⟨b,o,x,rfl,Bz,hx,e1⟩:=(H.out.below HB.out HS.out).bool_at (k:=k) (by omega);have Sr:(k:Int)<(n:Int):=by omega
   have pz:(k:Int)<=(c:Int):=by have:=H.out.cap;omega
   have ct:=dF xs k;rw[ft hx] at ct;obtain⟨ρ,hρ⟩:∃ρ,av (xs.drop (k+1))%d=ρ:=⟨_,rfl⟩;obtain⟨α,hα⟩:∃α,av (xs.drop (k+1))/d=α:=⟨_,rfl⟩;have acd:=zH (show ρ<d by rw[<-hρ];exact HRL.out);have hdv:=VM (A:=av (xs.drop (k+1))) (d:=d) (q:=α) (r:=ρ) x.toNat (by rw[<-hα,<-hρ,Nat.mul_comm];exact(Nat.div_add_mod _ _).symm) (by rw[<-hρ];exact HRL.out) (by cases x<;>simp);rw[<-ct] at hdv;have AP:av ([x]++bits ρ)=x.toNat+2*ρ:=by show av (x::bits ρ)=_;rw[av,bm]
   have I5:=Kw HQ.out (by omega:k<n);rw[hα] at I5;have HDN:=zH I5;have HDV:=zH hdv;have HBL:=zH AP;have kD:=HOR.out;rw[hρ] at kD;have aoq:=zH kD;have HOL:=zH (Own.lit1 wr x);have fe:=zH (HB.out.alloc HB.out.size (.cells #[.bool x] 4));have HLR:=zH kD.rsAll.len;clear ct hρ hα hdv AP I5 kD hx HOR;go_wp2_with (at_builtin; have Lg:=aoq.out.rsAll.below ((Below.refl wr.heap.size wr).alloc (Nat.le_refl _) (.cells #[.bool x] 4)) (λ_ h=>h); refine fO (α:=Bool) (S:=bi) rfl _ _ 155 rfl 1 Tryz.bitsTy rfl HOL.out rfl Lg _ (Flat.bools _) Lg.boolsAt (oc _) (by rw[HLR.out];have:=HN4.out;simp;omega) (by simp) ?_; intro w6 w7 hown2 hg2 sd; have HO7:=zH hown2; have HB7:=zH (((Below.refl wr.heap.size wr).alloc (Nat.le_refl _) (.cells #[.bool x] 4)).grown hg2 (by simp) (λk hk=>(HOL.out.lt k hk).1)); obtain⟨A7,n7,c7,rfl,hn7⟩:=hown2.slice; have bG:=i6 hown2.rsAll (by rw[<-hown2.rsAll.len,List.length_append,HLR.out];have:=HN4.out;simp;omega); rw[HBL.out] at bG; have HC:=zH bG; clear hown2 hg2 sd Lg hn7 bG);refine HC.out.mono ?_;rintro e w8 ⟨v8,rfl,ho8,XA⟩;obtain⟨A8,n8,c8,rfl,hn8⟩:=ho8.slice;have HB8:=zH (au HB7.out XA);have HO8:=zH ho8;have aaN:=au HB.out HB8.out;have aaH:=Jn ho8.rsAll (H2.out.below aaN HS2.out);rw[bm,HD.out] at aaH;have HCM:=zH aaH;have WI:=zH aaN;have ml:w.heap.size+1<=w8.heap.size:=Nat.le_trans HGW.out HB8.out.size;have af9:=HB8.out;have EC:w.heap.size+1<=w7.heap.size:=Nat.le_trans HGW.out HB7.out.size;have aot:=zH (ho8.base_le EC);have ahf:=zH (BD.out.below af9);have HN8:=zH (show n8<=n2+1 by
    rw[hn8];refine jd ?_;have h1:=acd.out;have h2:=HDL.out;have h3:=Bool.toNat_le x;rw[Nat.pow_succ];omega)
   have GV:=zH ml;clear ho8 XA aaH aaN hn8 af9 ml EC;obtain⟨t,ht⟩:∃t,jQ (x.toNat+2*ρ) d=t:=⟨_,rfl⟩;have Sx:=HCM.out;rw[ht] at Sx;have aoK:=zH Sx;clear Sx HCM;go_wp2_with fail;refine aoK.out.mono ?_;rintro e w' ⟨rfl,rfl⟩;rcases Nat.lt_or_ge (x.toNat+2*ρ) d with hlt|hge
   ·have ht1:t= -1:=by rw[<-ht];exact nY hlt
    subst ht1;obtain⟨e1,e2⟩:=HDV.out.2 hlt;have HE1:=zH e1;have HE2:=zH e2;clear ht hlt e1 e2;go_wp2_with fail;go_roundw
    case rel=>exact⟨k,(k:Int)-1,q,by omega,by go_num,by omega,ahf.out,by rw[HE1.out];exact HDN.out.1,by rw[HE2.out];exact aot.out,WI.out⟩
    case measure=>simp[intOf]
   ·have ht1:(0<=t)=True:=by
     refine eq_true ?_;rw[<-ht];rcases Nat.lt_or_ge d (x.toNat+2*ρ) with h|h
     ·rw[nZ h];omega
     ·rw[show x.toNat+2*ρ=d by omega,qK];omega
    obtain⟨e1,e2⟩:=HDV.out.1 hge;have bG:=Tb HO8.out.rsAll (H2.out.below WI.out HS2.out) (λ_ h=>h) (λb hb=>Nat.lt_of_lt_of_le (HS2.out b hb) WI.out.size) (by have:=HN8.out;omega) (by rw[bm,HD.out];exact hge);rw[bm,HD.out] at bG;have HC:=zH bG;have HE1:=zH e1;have HE2:=zH e2;clear ht hge e1 e2 bG;go_wp2_with fail;refine HC.out.mono ?_;rintro e w9 ⟨v9,rfl,ho9,hb9⟩;obtain⟨A9,n9,c9,rfl,hn9⟩:=ho9.slice;have HB9:=zH (au WI.out hb9);have HO9:=zH (ho9.base_le GV.out);have aag:=ahf.out.below hb9;obtain⟨y,hy⟩:∃y,q[k]?=some y:=⟨_,List.getElem?_eq_getElem (by have:=HQ.out.len;omega)⟩;obtain⟨g,u,hA,_,_,_,tU,hfz⟩:=aag.get1 rfl hy;injection hA with hA
    injection hA with hA
    subst hA;have aor:=zH aag;clear ho9 hb9 hn9 aag hy;go_wp2_with fail;go_roundw
    case rel=>exact⟨k,(k:Int)-1,q.set k true,by omega,by go_num,by omega,(aor.out.stored (x:=true) rfl rfl).1,by rw[HE1.out,Nat.add_comm];exact HDN.out.2,by rw[HE2.out];exact HO9.out.setCell (p:=⟨w.heap.size,k,none⟩) (HO9.out.own_ne (by show w.heap.size<w.heap.size+1;omega)) (λ_ h=>h.elim) _,HB9.out.setCell (p:=⟨w.heap.size,k,none⟩) (Nat.le_refl _) _⟩
    case measure=>simp[intOf]
end Go.Proofs.YtdbpbfglhbiadaaGreatDoor
