/- NatD Nat8 NatL -/
import Derived.Test.YtjlhbfbdcfajfaaGreatDoorB04
import Derived.Test.YtjlhbfbdcfajfaaGreatDoorB03
namespace Go.Proofs.YtjlhbfbdcfajfaaGreatDoor
open Go.RowKit
section
variable {P B U V T h v2 u2 ul vl q r:Nat}
theorem Lj (hU:U=P*(T*B+u2)+ul) (W7:ul<P) (hu2:u2<B) (hV:V=P*(h*B+v2)+vl) (hh:0<h):U/V≤T/h:=by
 rw[Nat.le_div_iff_mul_le hh];rcases Nat.lt_or_ge T (U/V*h) with hc|hc
 ·exfalso
  have h1:U/V*V≤U:=Nat.div_mul_le_self U V;have h2:(T+1)*(P*B)≤U/V*h*(P*B):=Nat.mul_le_mul_right _ hc;have h3:U/V*h*(P*B)≤U/V*V:=by
   rw[Nat.mul_assoc];apply Nat.mul_le_mul_left;rw[hV];have:h*(P*B)=P*(h*B):=by grind
   rw[this,Nat.mul_add];omega
  have h4:U<(T+1)*(P*B):=by
   have e:(T+1)*(P*B)=P*(T*B)+P*B:=by grind
   have e2:P*(T*B+u2)=P*(T*B)+P*u2:=by grind
   have e3:P*u2+P≤P*B:=by
    rw[←Nat.mul_succ];exact Nat.mul_le_mul_left _ hu2
   omega
  omega
 ·exact hc
theorem Q5 (hU:U=P*(T*B+u2)+ul) (W7:ul<P) (hV:V=P*(h*B+v2)+vl) (hq:q*h+r=T) (ht:r*B+u2<q*v2):U/V<q:=by
 apply Nat.div_lt_of_lt_mul;have h1:P*(T*B+u2+1)≤P*(q*(h*B+v2)):=by
  apply Nat.mul_le_mul_left;have e:q*(h*B+v2)=q*h*B+q*v2:=by grind
  have e2:T*B=q*h*B+r*B:=by rw[←hq,Nat.add_mul]
  omega
 have h2:P*(q*(h*B+v2))≤V*q:=by
  have e:V*q=P*(q*(h*B+v2))+vl*q:=by rw[hV];grind
  omega
 have e3:P*(T*B+u2+1)=P*(T*B+u2)+P:=by grind
 omega
theorem xw (hU:U=P*(T*B+u2)+ul) (hV:V=P*(h*B+v2)+vl) (Qy:vl<P) (hh:0<h) (hq:q*h+r=T) (hqB:q<B) (ht:q*v2≤r*B+u2):q≤U/V+1:=by
 have h1:q*V≤U+q*vl:=by
  have e:q*V=P*(q*(h*B+v2))+q*vl:=by rw[hV];grind
  have e2:q*(h*B+v2)≤T*B+u2:=by
   have e3:q*(h*B+v2)=q*h*B+q*v2:=by grind
   have e4:T*B=q*h*B+r*B:=by rw[←hq,Nat.add_mul]
   omega
  have:=Nat.mul_le_mul_left P e2;omega
 have h2:q*vl<V:=by
  have e:q*vl≤B*P:=Nat.mul_le_mul (by omega) (by omega);have e2:P*B≤P*(h*B+v2):=Nat.mul_le_mul_left _ (by have:=Nat.le_mul_of_pos_left B hh;omega);have e3:q*vl<B*P∨q*vl=B*P:=by omega
  rcases e3 with e3|e3
  ·have:B*P=P*B:=Nat.mul_comm _ _;omega
  ·have hP:0<P:=by omega
   have:q*vl<B*P:=Nat.mul_lt_mul_of_lt_of_le hqB (by omega) hP;omega
 have hV0:0<V:=by omega
 rcases Nat.lt_or_ge (U/V+1) q with hc|hc
 ·exfalso
  have h3:U<V*(U/V+1):=by
   have:=Nat.lt_mul_div_succ U hV0;exact this
  have h4:V*(U/V+1)+V≤q*V:=by
   have:(U/V+1+1)*V≤q*V:=Nat.mul_le_mul_right _ hc;have e:(U/V+1+1)*V=V*(U/V+1)+V:=by grind
   omega
  omega
 ·exact hc
theorem Eo (hq:q*h+r=T) (hT:T<(h+1)*B) (hr:B≤r) (Ny:v2<B):q<B∧q*v2≤r*B+u2:=by
 have h1:q<B:=by
  rcases Nat.lt_or_ge q B with hc|hc
  ·exact hc
  ·exfalso
   have:B*h≤q*h:=Nat.mul_le_mul_right _ hc;have e:(h+1)*B=B*h+B:=by grind
   omega
 refine⟨h1,?_⟩;have e1:q*v2≤B*B:=Nat.mul_le_mul (by omega) (by omega);have e2:B*B≤r*B:=Nat.mul_le_mul_right _ hr;omega
theorem QZ (hU:U=P*(T*B+u2)+ul) (hV:V=P*(h*B+v2)+vl) (Qy:vl<P) (Ny:v2<B) (bn:U<V*B):T<(h+1)*B:=by
 rcases Nat.lt_or_ge T ((h+1)*B) with hc|hc
 ·exact hc
 ·exfalso
  have h1:P*((h+1)*B*B)≤P*(T*B+u2):=Nat.mul_le_mul_left _ (by have:=Nat.mul_le_mul_right B hc;omega);have h2:V<P*((h+1)*B):=by
   have e:P*((h+1)*B)=P*(h*B)+P*B:=by grind
   have e2:P*(h*B+v2)=P*(h*B)+P*v2:=by grind
   have e3:P*v2+P≤P*B:=by rw[←Nat.mul_succ];exact Nat.mul_le_mul_left _ Ny
   omega
  have h3:V*B≤P*((h+1)*B)*B:=Nat.mul_le_mul_right _ (by omega);have e:P*((h+1)*B)*B=P*((h+1)*B*B):=by grind
  omega
end
def Wb (w:World) (U V:Nat) (e:Ending) (w':World):Prop:=∃q m:Nat,e=.returned (.int .u64 q)∧U/V≤q∧q≤U/V+1∧q<4294967296∧w'=w.drewN m
theorem ao7 {us vs:List (BitVec 32)} {j n:Nat} (hn:2≤n) (hv:vs.length=n) (hu:j+n<us.length) : ∃P ul vl,0<P∧ul<P∧vl<P∧ val ((us.drop j).take (n+1))=P*((((us.getD (j+n) 0#32).toNat*4294967296+(us.getD (j+n-1) 0#32).toNat))*4294967296+(us.getD (j+n-2) 0#32).toNat)+ul∧ val vs=P*((vs.getD (n-1) 0#32).toNat*4294967296+(vs.getD (n-2) 0#32).toNat)+vl:=by
 refine⟨4294967296^(n-2),val ((us.drop j).take (n-2)),val (vs.take (n-2)),Nat.pow_pos (by omega),?_,?_,?_,?_⟩
 ·have:=iU ((us.drop j).take (n-2));rw[List.length_take,List.length_drop,Nat.min_eq_left (by omega)] at this;exact this
 ·have:=iU (vs.take (n-2));rw[List.length_take,Nat.min_eq_left (by omega)] at this;exact this
 ·have hg:∀i,((us.drop j).getD i 0#32)=us.getD (j+i) 0#32:=by
   intro i;rw[List.getD_eq_getElem?_getD,List.getD_eq_getElem?_getD,List.getElem?_drop]
  have e1:=cz (us.drop j) n;have e2:=cz (us.drop j) (n-1);have e3:=cz (us.drop j) (n-2);rw[hg] at e1 e2 e3;have f1:n-1+1=n:=by omega
  have f2:n-2+1=n-1:=by omega
  have f3:j+(n-1)=j+n-1:=by omega
  have f4:j+(n-2)=j+n-2:=by omega
  rw[f1,f3] at e2;rw[f2,f4] at e3;have p1:4294967296^n=4294967296^(n-2)*4294967296*4294967296:=by rw[←Nat.pow_succ,←Nat.pow_succ];congr 1;omega
  have p2:4294967296^(n-1)=4294967296^(n-2)*4294967296:=by rw[←Nat.pow_succ];congr 1;omega
  rw[e1,e2,e3,p1,p2]
  grind
 ·have e2:=cz vs (n-1);have e3:=cz vs (n-2);have f1:n-1+1=n:=by omega
  have f2:n-2+1=n-1:=by omega
  rw[f1,dU vs n (by omega)] at e2;rw[f2] at e3;have p2:4294967296^(n-1)=4294967296^(n-2)*4294967296:=by rw[←Nat.pow_succ];congr 1;omega
  rw[e2,e3,p2]
  grind
theorem RS.limbD {w:World} {S:Nat→Prop} {A:Option Addr} {n c:Nat} {xs:List (BitVec 32)} (h:RS w S A n c xs) {k:Nat} (hk:k<n):∃b o,A=some ⟨b,o,none⟩∧w.cell? ⟨b,o+k,none⟩=some (.int .u32 ((xs.getD k 0#32).toNat:Int)):=by
 obtain⟨b,o,x,rfl,_,hx,e⟩:=h.limb_at hk;exact⟨b,o,rfl,by rw[List.getD_eq_getElem?_getD,hx];exact e⟩
set_option maxHeartbeats 2000000 in
theorem VE {Su Sv:Nat→Prop} {Au Av:Option Addr} {nu cu n cv:Nat} {us vs:List (BitVec 32)} {w:World} (j:Nat) (hu:RS w Su Au nu cu us) (hv:RS w Sv Av n cv vs) (hn:2≤n) (hj:j+n<nu) (hnu:nu≤2147483648) (hh:2147483648≤(vs.getD (n-1) 0#32).toNat) (bn:val ((us.drop j).take (n+1))<val vs*4294967296) : Calls Tryz.prog 188 #[.slice Au nu cu,.slice Av n cv,.int .i64 j] w (Wb w (val ((us.drop j).take (n+1))) (val vs)):=by
 obtain⟨P,ul,vl,hP,W7,Qy,eU,eV⟩:=ao7 (us:=us) (vs:=vs) (j:=j) hn hv.len (by rw[hu.len];exact hj);obtain⟨bu,ou,rfl,c1⟩:=hu.limbD (k:=j+n) hj;obtain⟨bu',ou',xU,c2⟩:=hu.limbD (k:=j+n-1) (by omega);obtain⟨rfl,rfl⟩:bu=bu'∧ou=ou':=by injection xU with xU;injection xU with h1 h2;exact⟨h1,h2⟩
 obtain⟨bu',ou',xU,c3⟩:=hu.limbD (k:=j+n-2) (by omega);obtain⟨rfl,rfl⟩:bu=bu'∧ou=ou':=by injection xU with xU;injection xU with h1 h2;exact⟨h1,h2⟩
 obtain⟨bv,ov,rfl,c4⟩:=hv.limbD (k:=n-1) (by omega);obtain⟨bv',ov',xU,c5⟩:=hv.limbD (k:=n-2) (by omega);obtain⟨rfl,rfl⟩:bv=bv'∧ov=ov':=by injection xU with xU;injection xU with h1 h2;exact⟨h1,h2⟩
 have l1:=ic (l:=us) (j+n);have l2:=ic (l:=us) (j+n-1);have l3:=ic (l:=us) (j+n-2);have l4:=ic (l:=vs) (n-1);have l5:=ic (l:=vs) (n-2);obtain⟨U,hU⟩:∃U,val ((us.drop j).take (n+1))=U:=⟨_,rfl⟩;obtain⟨V,hV⟩:∃V,val vs=V:=⟨_,rfl⟩;obtain⟨u0,h0⟩:∃u0,(us.getD (j+n) 0#32).toNat=u0:=⟨_,rfl⟩;obtain⟨u1,h1⟩:∃u1,(us.getD (j+n-1) 0#32).toNat=u1:=⟨_,rfl⟩;obtain⟨u2,h2⟩:∃u2,(us.getD (j+n-2) 0#32).toNat=u2:=⟨_,rfl⟩;obtain⟨h,h3⟩:∃h,(vs.getD (n-1) 0#32).toNat=h:=⟨_,rfl⟩;obtain⟨v2,h4⟩:∃v2,(vs.getD (n-2) 0#32).toNat=v2:=⟨_,rfl⟩;rw[hU,hV] at bn;rw[hU,h0,h1,h2] at eU;rw[hV,h3,h4] at eV;rw[h0] at c1 l1;rw[h1] at c2 l2;rw[h2] at c3 l3;rw[h3] at c4 l4 hh;rw[h4] at c5 l5;rw[hU,hV];obtain⟨T,hT⟩:∃T,u0*4294967296+u1=T:=⟨_,rfl⟩;have Fi:=acp u0 u1 l1 l2;rw[hT] at Fi eU;have hTb:T<18446744073709551616:=by omega
 have hTt:=QZ eU eV Qy l5 bn;have NY:=Lj eU W7 l3 eV (by omega);have hcu:=hu.cap;have Xl:=hv.cap;have EU:=zH eU;have EV:=zH eV;have C1:=zH hTt;have HUL:=zH W7;have HVL:=zH Qy;obtain⟨a,ha⟩:∃a,j+n=a:=⟨_,rfl⟩;obtain⟨b,hb⟩:∃b,j+n-1=b:=⟨_,rfl⟩;obtain⟨c,hc⟩:∃c,j+n-2=c:=⟨_,rfl⟩;obtain⟨d,hd⟩:∃d,n-1=d:=⟨_,rfl⟩;obtain⟨f,hf⟩:∃f,n-2=f:=⟨_,rfl⟩;rw[ha] at c1;rw[hb] at c2;rw[hc] at c3;rw[hd] at c4;rw[hf] at c5;have i1:(j:Int)+(n:Int)=(a:Int):=by omega
 have i2:(a:Int)-1=(b:Int):=by omega
 have i3:(a:Int)-2=(c:Int):=by omega
 have i4:(n:Int)-1=(d:Int):=by omega
 have i5:(n:Int)-2=(f:Int):=by omega
 have k1:(a:Int)<(nu:Int):=by omega
 have k2:(b:Int)<(nu:Int):=by omega
 have k3:(c:Int)<(nu:Int):=by omega
 have k4:(d:Int)<(n:Int):=by omega
 have k5:(f:Int)<(n:Int):=by omega
 have wa:IntKind.i64.wrap (a:Int)=(a:Int):=by rw[IntKind.wrap_i64];omega
 have wb:IntKind.i64.wrap (b:Int)=(b:Int):=by rw[IntKind.wrap_i64];omega
 have wc:IntKind.i64.wrap (c:Int)=(c:Int):=by rw[IntKind.wrap_i64];omega
 have w0:IntKind.u64.wrap (u0:Int)=(u0:Int):=by rw[IntKind.wrap_u64];omega
 have w1:IntKind.u64.wrap (u1:Int)=(u1:Int):=by rw[IntKind.wrap_u64];omega
 have w2:IntKind.u64.wrap (u2:Int)=(u2:Int):=by rw[IntKind.wrap_u64];omega
 have w3:IntKind.u64.wrap (h:Int)=(h:Int):=by rw[IntKind.wrap_u64];omega
 have w4:IntKind.u64.wrap (v2:Int)=(v2:Int):=by rw[IntKind.wrap_u64];omega
 have w5:IntKind.u64.wrap ((u0:Int)*4294967296)=(u0:Int)*4294967296:=by rw[IntKind.wrap_u64];omega
 have hu0:((h:Int)==0)=false:=by rw[beq_eq_false_iff_ne];omega
 obtain⟨q0,Md⟩:∃q,T/h=q:=⟨_,rfl⟩;obtain⟨r0,D9⟩:∃r,T%h=r:=⟨_,rfl⟩;have Mc:q0*h+r0=T:=by rw[←Md,←D9,Nat.mul_comm];exact Nat.div_add_mod T h
 have aiF:r0<4294967296:=by have:=Nat.mod_lt T (show 0<h by omega);omega
 have aiK:q0<18446744073709551616:=by have:=Nat.div_le_self T h;omega
 rw[Md] at NY;have hqd:(T:Int).tdiv (h:Int)=(q0:Int):=by rw[←Md];rfl
 have FQ:(T:Int).tmod (h:Int)=(r0:Int):=by rw[←D9];rfl
 have aiI:(T:Int)/(h:Int)=(q0:Int):=by rw[←Md];rfl
 have UN:(T:Int)%(h:Int)=(r0:Int):=by rw[←D9];rfl
 have wq:IntKind.u64.wrap (q0:Int)=(q0:Int):=by rw[IntKind.wrap_u64];omega
 have wr0:IntKind.u64.wrap (r0:Int)=(r0:Int):=by rw[IntKind.wrap_u64];omega
 have Fx:=zH NY;have HQR:=zH Mc;have HUB:Hid (U/V<4294967296):=zH (Nat.div_lt_of_lt_mul bn);clear eU eV hTt W7 Qy NY ha hb hc hd hf h0 h1 h2 h3 h4 hU hV hT bn hu hv hP Md D9 Mc;go_enter Tryz.func188,Tryz.ntmps188;go_wp2_with fail;go_quiet (fail)
 go_wp2_with fail;go_quiet (fail)
 go_wp2_with fail;go_loopw [10,11] (fun qv rv wr=>∃(q r m:Nat),qv=.int .u64 q∧rv=.int .u64 r∧q*h+r=T∧U/V≤q∧r<4294967296∧q<18446744073709551616∧wr=w.drewN m)
  (fun qv _ _=>(intOf qv).toNat)
 case atStart=>exact⟨q0,r0,_,rfl,rfl,HQR.out,Fx.out,aiF,aiK,World.drewN_drewN _ _ _⟩
 case round=>
  clear wq wr0 hqd aiI FQ UN Fi HQR Fx aiF aiK;obtain⟨q,r,m,rfl,rfl,Mc,nR,hr,hq,rfl⟩:=hrel;have HQR:=zH Mc;have Bc:=zH nR;have wh:IntKind.u64.wrap ((r:Int)+(h:Int))=(r:Int)+(h:Int):=by rw[IntKind.wrap_u64];omega
  by_cases hB:4294967296≤q
  ·have hB':(4294967296:Int)≤(q:Int):=by omega
   have wq1:IntKind.u64.wrap ((q:Int)-1)=(q:Int)-1:=by rw[IntKind.wrap_u64];omega
   have Eb:1≤q:=by omega
   have ND:(q-1)*h+(r+h)=T:=by
    have e:q=q-1+1:=by omega
    rw[e,Nat.add_mul] at Mc;omega
   have NL:U/V≤q-1:=by have:=HUB.out;omega
   have Je:=zH ND;have OL:=zH NL;obtain⟨q',QB⟩:∃x,q-1=x:=⟨_,rfl⟩;obtain⟨r',qN⟩:∃x,r+h=x:=⟨_,rfl⟩;rw[QB,qN] at Je;rw[QB] at OL;have iq:(q:Int)-1=(q':Int):=by omega
   have ir:(r:Int)+(h:Int)=(r':Int):=by omega
   rw[iq] at wq1;rw[ir] at wh;by_cases hR:4294967296≤r'
   ·have hR':(4294967296:Int)≤(r':Int):=by omega
    have QC:=Eo (u2:=u2) Je.out C1.out hR l5;have Pq:=xw EU.out EV.out HVL.out (by omega) Je.out QC.1 QC.2;have cJ:Hid (U/V≤q'∧q'≤U/V+1∧q'<4294967296):=zH ⟨OL.out,Pq,QC.1⟩;clear Mc nR ND NL QC Pq QB qN hR hB;go_wp2_with fail;go_quiet (fail)
    go_wp2_with fail;go_ret
    exact⟨q',_,rfl,cJ.out.1,cJ.out.2.1,cJ.out.2.2,rfl⟩
   ·have hR':(r':Int)<(4294967296:Int):=by omega
    have hR2:¬((4294967296:Int)≤(r':Int)):=by omega
    have hR3:decide ((4294967296:Int)≤(r':Int))=false:=decide_eq_false hR2;have CN:r'<4294967296:=by omega
    have Ea:q'<18446744073709551616:=by omega
    have hqd:q'<q:=by omega
    clear Mc nR ND NL hB QB qN hR;go_wp2_with fail;go_quiet (fail)
    go_wp2_with fail;go_roundw
    case rel=>exact⟨q',r',_,rfl,rfl,Je.out,OL.out,CN,Ea,rfl⟩
    case measure=>simp[intOf];omega
  ·have hB':(q:Int)<(4294967296:Int):=by omega
   have hB2:¬((4294967296:Int)≤(q:Int)):=by omega
   have hB3:decide ((4294967296:Int)≤(q:Int))=false:=decide_eq_false hB2;obtain⟨p,hp⟩:∃p,q*v2=p:=⟨_,rfl⟩;obtain⟨s,hs⟩:∃s,r*4294967296+u2=s:=⟨_,rfl⟩;have Pk:p≤4294967295*4294967295:=by rw[←hp];exact Nat.mul_le_mul (by omega) (by omega)
   have ip:(q:Int)*(v2:Int)=(p:Int):=by rw[←hp];omega
   have wp':IntKind.u64.wrap (p:Int)=(p:Int):=by rw[IntKind.wrap_u64];omega
   have wr':IntKind.u64.wrap ((r:Int)*4294967296)=(r:Int)*4294967296:=by rw[IntKind.wrap_u64];omega
   have aq1:=acp r u2 hr l3;rw[hs] at aq1;by_cases hps:s<p
   ·have hbig:=Q5 EU.out HUL.out EV.out Mc (by rw[hs,hp];exact hps);have aqZ:(s:Int)<(p:Int):=by omega
    have Eb:1≤q:=Nat.lt_of_le_of_lt (Nat.zero_le _) hbig;have wq1:IntKind.u64.wrap ((q:Int)-1)=(q:Int)-1:=by rw[IntKind.wrap_u64];omega
    have ND:(q-1)*h+(r+h)=T:=by
     have e:q=q-1+1:=by omega
     rw[e,Nat.add_mul] at Mc;omega
    have NL:U/V≤q-1:=Nat.le_sub_one_of_lt hbig;have Je:=zH ND;have OL:=zH NL;obtain⟨q',QB⟩:∃x,q-1=x:=⟨_,rfl⟩;obtain⟨r',qN⟩:∃x,r+h=x:=⟨_,rfl⟩;rw[QB,qN] at Je;rw[QB] at OL;have iq:(q:Int)-1=(q':Int):=by omega
    have ir:(r:Int)+(h:Int)=(r':Int):=by omega
    rw[iq] at wq1;rw[ir] at wh;by_cases hR:4294967296≤r'
    ·have hR':(4294967296:Int)≤(r':Int):=by omega
     have QC:=Eo (u2:=u2) Je.out C1.out hR l5;have Pq:=xw EU.out EV.out HVL.out (by omega) Je.out QC.1 QC.2;have cJ:Hid (U/V≤q'∧q'≤U/V+1∧q'<4294967296):=zH ⟨OL.out,Pq,QC.1⟩;clear Mc nR ND NL QC Pq QB qN hR hB hp hs hps Pk hbig;go_wp2_with fail;go_quiet (fail)
     go_wp2_with fail;go_ret
     exact⟨q',_,rfl,cJ.out.1,cJ.out.2.1,cJ.out.2.2,rfl⟩
    ·have hR':(r':Int)<(4294967296:Int):=by omega
     have hR2:¬((4294967296:Int)≤(r':Int)):=by omega
     have hR3:decide ((4294967296:Int)≤(r':Int))=false:=decide_eq_false hR2;have CN:r'<4294967296:=by omega
     have Ea:q'<18446744073709551616:=by omega
     have hqd:q'<q:=by omega
     clear Mc nR ND NL hB QB qN hR hp hs hps Pk hbig;go_wp2_with fail;go_quiet (fail)
     go_wp2_with fail;go_roundw
     case rel=>exact⟨q',r',_,rfl,rfl,Je.out,OL.out,CN,Ea,rfl⟩
     case measure=>simp[intOf];omega
   ·have aqZ:(p:Int)≤(s:Int):=by omega
    have aqY:¬((s:Int)<(p:Int)):=by omega
    have aBw:decide ((s:Int)<(p:Int))=false:=decide_eq_false aqY;have aBv:decide (s<p)=false:=decide_eq_false hps;have Pq:=xw EU.out EV.out HVL.out (by omega) Mc (by omega) (by rw[hs,hp];omega);have cJ:Hid (U/V≤q∧q≤U/V+1∧q<4294967296):=zH ⟨nR,Pq,by omega⟩;clear Mc nR Pq hB hp hs hps Pk;go_wp2_with fail;go_quiet (fail)
    go_wp2_with fail;go_ret
    exact⟨q,_,rfl,cJ.out.1,cJ.out.2.1,cJ.out.2.2,World.drewN_drewN _ _ _⟩
theorem Qn {q c b x y p s P v vx vy B:Nat} (hB:B=4294967296) (hx:x<B) (hp:q*y+c=p) (hs:B+x-p%B-b=s) (hb:b≤1) (h:v+q*vy=vx+P*(c+b)) : (v+P*(s%B))+q*(vy+P*y)=(vx+P*x)+P*B*(p/B+(1-s/B)):=by
 have hm:=Nat.mod_lt p (show 0<B by omega);have e1:B*(p/B)+p%B=p:=Nat.div_add_mod p B;have e2:B*(s/B)+s%B=s:=Nat.div_add_mod s B;have hd:s/B≤1:=by
  have:s/B<2:=Nat.div_lt_of_lt_mul (by omega);omega
 obtain⟨m,h1⟩:∃m,p%B=m:=⟨_,rfl⟩;obtain⟨c',h2⟩:∃m,p/B=m:=⟨_,rfl⟩;obtain⟨t,h3⟩:∃m,s%B=m:=⟨_,rfl⟩;obtain⟨d,h4⟩:∃m,s/B=m:=⟨_,rfl⟩;rw[h1,h2] at e1;rw[h3,h4] at e2;rw[h1] at hs hm;rw[h4] at hd;rw[h2,h3,h4];obtain⟨g,hg⟩:∃g,1-d=g:=⟨_,rfl⟩;have e3:B*d+B*g=B:=by rw[←Nat.mul_add,←hg,show d+(1-d)=1 by omega,Nat.mul_one]
 have core:t+q*y+c+b=x+B*(c'+g):=by
  rw[Nat.mul_add];omega
 rw[hg];have ayP:P*(t+q*y+c+b)=P*(x+B*(c'+g)):=by rw[core]
 grind
theorem Uh {U V U' W q b:Nat} (hV:0<V) (hU':U'<W) (nR:U/V≤q) (yM:q≤U/V+1) (hb:b≤1) (h:U'+q*V=U+W*(0+b)) : (b=0→q=U/V∧U'=U%V)∧(0<b→q=U/V+1∧U'+V=W+U%V):=by
 have e1:V*(U/V)+U%V=U:=Nat.div_add_mod U V;have hm:=Nat.mod_lt U hV;obtain⟨d,hd⟩:∃d,U/V=d:=⟨_,rfl⟩;obtain⟨r,hr⟩:∃d,U%V=d:=⟨_,rfl⟩;rw[hd,hr] at e1;rw[hr] at hm;rw[hd] at nR yM;rw[hd,hr];rw[Nat.zero_add] at h;have ec:V*d=d*V:=Nat.mul_comm _ _;have es:(d+1)*V=d*V+V:=by rw[Nat.add_mul,Nat.one_mul]
 refine⟨fun h0=>?_,fun h0=>?_⟩
 ·subst h0;rw[Nat.mul_zero] at h;rcases Nat.lt_or_ge d q with hc|hc
  ·have:q=d+1:=by omega
   subst this;omega
  ·have:q=d:=by omega
   subst this;exact⟨rfl,by omega⟩
 ·have bd:b=1:=by omega
  subst bd;rw[Nat.mul_one] at h;rcases Nat.lt_or_ge d q with hc|hc
  ·have:q=d+1:=by omega
   subst this;exact⟨rfl,by omega⟩
  ·have:q=d:=by omega
   subst this;omega
theorem LI {U' U'' V W R c:Nat} (hU:U''<W) (h:U''+W*c=U'+V) (he:U'+V=W+R) (hc:c≤1):U''=R:=by
 rcases Nat.lt_or_ge 0 c with h0|h0
 ·have:c=1:=by omega
  subst this;omega
 ·have:c=0:=by omega
  subst this;omega
theorem Da (us:List (BitVec 32)) (j m:Nat) (h:j+m≤us.length):val us=val (us.take j)+4294967296^j*(val ((us.drop j).take m)+4294967296^m*val (us.drop (j+m))):=by
 rw[iN us j (by omega),iN (us.drop j) m (by rw[List.length_drop];omega),List.drop_drop]
theorem abF {us:List (BitVec 32)} {j n V:Nat} (hj:j+(n+1)≤us.length) (mV:val (us.drop (j+1))<V):val ((us.drop j).take (n+1))<V*4294967296:=by
 have e1:=qR (l:=us) (k:=j) (x:=us[j]'(by omega)) (List.getElem?_eq_getElem (by omega));have hx:=(us[j]'(by omega)).isLt;have e2:=iN (us.drop j) (n+1) (by rw[List.length_drop];omega);omega
theorem Np {us JA:List (BitVec 32)} {j n V:Nat} (hj:j+(n+1)≤us.length) (hV:V<4294967296^n) (mV:val (us.drop (j+1))<V) (fL:JA.length=us.length) (h1:JA.take j=us.take j) (h2:JA.drop (j+(n+1))=us.drop (j+(n+1))) (hw:val ((JA.drop j).take (n+1))=val ((us.drop j).take (n+1))%V) : val ((us.drop j).take (n+1))<V*4294967296∧val (JA.drop j)<V∧val us=val JA+4294967296^j*(V*(val ((us.drop j).take (n+1))/V)):=by
 have e1:=qR (l:=us) (k:=j) (x:=us[j]'(by omega)) (List.getElem?_eq_getElem (by omega));have hx:=(us[j]'(by omega)).isLt;have e2:=iN (us.drop j) (n+1) (by rw[List.length_drop];omega);have e3:=iN (JA.drop j) (n+1) (by rw[List.length_drop];omega);rw[List.drop_drop] at e2 e3;rw[h2] at e3;have e4:=Da us j (n+1) hj;have e5:=Da JA j (n+1) (by omega);rw[h1,h2] at e5;obtain⟨U,hU⟩:∃U,val ((us.drop j).take (n+1))=U:=⟨_,rfl⟩;obtain⟨R,hR⟩:∃U,val (us.drop (j+(n+1)))=U:=⟨_,rfl⟩;rw[hU] at hw e2 e4;rw[hR] at e2 e3 e4 e5;rw[hw] at e3 e5;rw[hU];have bn:val (us.drop j)<V*4294967296:=by omega
 have hVB:V*4294967296≤4294967296^(n+1):=by rw[Nat.pow_succ];exact Nat.mul_le_mul_right _ (by omega)
 have hR0:R=0:=by
  rcases Nat.eq_zero_or_pos R with h0|h0
  ·exact h0
  ·have:=Nat.mul_le_mul_left (4294967296^(n+1)) h0;omega
 subst hR0;rw[Nat.mul_zero] at e2 e3 e4 e5;have hm:=Nat.mod_lt U (show 0<V by omega);have hdm:V*(U/V)+U%V=U:=Nat.div_add_mod U V;refine⟨by omega,by omega,?_⟩;rw[e4,e5];obtain⟨d,hd⟩:∃d,U/V=d:=⟨_,rfl⟩;obtain⟨r,hr⟩:∃d,U%V=d:=⟨_,rfl⟩;rw[hd,hr] at hdm;rw[hd,hr];rw[←hdm]
 grind
theorem OW {us JA:List (BitVec 32)} {j i:Nat} (z:BitVec 32) (hi:j+i<JA.length) (h1:JA.take j=us.take j) (h2:JA.drop (j+i)=us.drop (j+i)) : (JA.set (j+i) z).take j=us.take j∧(JA.set (j+i) z).drop (j+(i+1))=us.drop (j+(i+1))∧ val (((JA.set (j+i) z).drop j).take (i+1))=val ((JA.drop j).take i)+4294967296^i*z.toNat∧JA.getD (j+i) 0#32=us.getD (j+i) 0#32:=by
 refine⟨by rw[List.take_set_of_le (by omega),h1],?_,?_,?_⟩
 ·rw[List.drop_set_of_lt (by omega)];have h3:=congrArg (List.drop 1) h2
  rwa [List.drop_drop,List.drop_drop] at h3
 ·rw[List.drop_set,if_neg (by omega),show j+i-j=i by omega];exact jr z (by rw[List.length_drop];omega)
 ·have:(JA.drop (j+i))[0]?=(us.drop (j+i))[0]?:=by rw[h2]
  rw[List.getElem?_drop,List.getElem?_drop,Nat.add_zero] at this;rw[List.getD_eq_getElem?_getD,List.getD_eq_getElem?_getD,this]
end Go.Proofs.YtjlhbfbdcfajfaaGreatDoor
