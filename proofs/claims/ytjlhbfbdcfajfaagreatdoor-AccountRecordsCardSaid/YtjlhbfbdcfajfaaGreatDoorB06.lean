/- Nat9 NatV -/
import Derived.Test.YtjlhbfbdcfajfaaGreatDoorB05
import Derived.Lib.BitFns
namespace Go.Proofs.YtjlhbfbdcfajfaaGreatDoor
open Go.RowKit
def Zr (w:World) (bs gu nu cu U V m:Nat) (e:Ending) (w':World):Prop:=
 ∃(s:Value) (qs rs:List (BitVec 32)),e=.returned s∧Own w' aA w.heap.size 98 s qs∧val qs=U/V∧qs.length=m∧
  Own w' aA bs 98 (.slice (some ⟨gu,0,none⟩) nu cu) rs∧val rs=U%V∧rs.length=nu∧Below bs w w'
theorem Zk (p:Nat) (hp:p<18446744073709551616):bits .and .u64 (p:Int) 4294967295=((p%4294967296:Nat):Int):=by
 have h:=bits_and_u64_nat p 4294967295 hp (by omega);have e:p&&& 4294967295=p%4294967296:=Nat.and_two_pow_sub_one_eq_mod p 32;rw[e] at h;exact h
theorem DX {n V:Nat} {us ts xs qs:List (BitVec 32)} {j q:Nat} {z:BitVec 32} (hj:j+(n+1)≤ts.length) (hV:V<4294967296^n) (Yx:val (ts.drop (j+1))<V) (fL:xs.length=ts.length) (h1:xs.take j=ts.take j) (h2:xs.drop (j+(n+1))=ts.drop (j+(n+1))) (hw:val ((xs.drop j).take (n+1))=val ((ts.drop j).take (n+1))%V) (hq:q=val ((ts.drop j).take (n+1))/V) (hz:z.toNat=q) (hjq:j<qs.length) (mV:val us=val ts+V*(4294967296^(j+1)*val (qs.drop (j+1)))):val us=val xs+V*(4294967296^j*val ((qs.set j z).drop j))∧val (xs.drop j)<V:=by
 obtain⟨_,h3,h4⟩:=Np hj hV Yx fL h1 h2 hw;refine⟨?_,h3⟩;rw[wO z hjq,val,hz,mV,h4,←hq,Nat.pow_succ]
 grind
set_option maxRecDepth 20000 in
set_option maxHeartbeats 4000000 in
theorem X6 {S:Nat→Prop} {Av:Option Addr} {bs gu nu cu n cv:Nat} {us vs:List (BitVec 32)} {w:World} (hu:Own w aA bs 98 (.slice (some ⟨gu,0,none⟩) nu cu) us) (hv:RS w S Av n cv vs) (hS:∀b,S b→b<w.heap.size∧b≠gu) (hn:2≤n) (hnu:n<nu) (aiY:nu≤1073741825) (hh:2147483648≤(vs.getD (n-1) 0#32).toNat) (acM:val (us.drop (nu-n))<val vs) : Calls Tryz.prog 164 #[.slice (some ⟨gu,0,none⟩) nu cu,.slice Av n cv] w (Zr w bs gu nu cu (val us) (val vs) (nu-n)):=by
 obtain⟨i0,hi,kR,eQ,jE⟩:=info_parts Tryz.u32Info;have HI:=zH hi;have xE:=zH kR;have fy:=zH eQ;have iL:=zH jE;have HU:=zH hu;have HV:=zH hv;have HUL:=zH hu.rsAll.len;have HSS:=zH hS;have HH:=zH hh;have YH:bs≤gu∧gu<w.heap.size:=hu.lt gu rfl;obtain⟨m,hm⟩:∃m,nu-n=m:=⟨_,rfl⟩;rw[hm] at acM;rw[hm];have HT:=zH acM;have Cn:(nu:Int)-(n:Int)=(m:Int):=by omega
 have hmb:m≤1073741825:=by omega
 have AH:1≤m:=by omega
 have wm:IntKind.i64.wrap (m:Int)=(m:Int):=by rw[IntKind.wrap_i64];omega
 obtain⟨V,hV⟩:∃V,val vs=V:=⟨_,rfl⟩;rw[hV] at HT;rw[hV];have HVV:=zH hV;clear hu hv hh acM hi kR eQ jE hV hS;go_enter Tryz.func164,Tryz.ntmps164;go_wp2_with (refine dh (α:=BitVec 32) _ rfl _ _ _ rfl rfl w.heap.size i0 (.int .u32 0) Tryz.underlying26 HI.out xE.out fy.out rfl .i64 .i64 (m:Int) (m:Int) m rfl rfl rfl rfl (by rw[iL.out];omega) (by unfold maxLen;omega) (Nat.le_refl _) 0#32 aA (fun _ h=>h.elim) (fun _ _=>rfl) ?_; intro w1 zF hg1; have jd:=zH zF; have bS:=zH ((Below.refl w.heap.size w).grown hg1 (Nat.le_refl _) (fun k hk=>by cases hk)); clear zF hg1);obtain⟨g,hg⟩:∃g,w.heap.size=g:=⟨_,rfl⟩;rw[hg] at jd YH;have HG:=zH hg;have bX:Hid (Below bs w w1):=zH (bS.out.mono (by rw[hg];omega));have HU1:=zH (HU.out.below bS.out);have oW:Hid (aD S w w1):=zH ((aD.of_below bS.out).sub fun b hb=>(HSS.out b hb).1);clear hg;go_loopw [7] (fun jv wr=>∃(k:Nat) (z:Int) (ts qs:List (BitVec 32)),k≤m∧jv=.int .i64 z∧z+1=k∧ts.length=nu∧qs.length=m∧val us=val ts+V*(4294967296^k*val (qs.drop k))∧val (ts.drop k)<V∧ Own wr aA bs 98 (.slice (some ⟨gu,0,none⟩) nu cu) ts∧Own wr aA g 98 (.slice (some ⟨g,0,none⟩) m m) qs∧aD S w wr∧Below bs w wr)
  (fun jv _=>(intOf jv+1).toNat)
 case atStart=>
  exact⟨m,(m:Int)-1,us,List.replicate m 0#32,Nat.le_refl _,rfl,by omega,HUL.out,by simp,by rw[List.drop_eq_nil_of_le (by simp)];simp[val],HT.out,HU1.out,jd.out,oW.out,bX.out⟩
 case round=>
  clear jd bS bX HU1 oW HU;obtain⟨k,z,ts,qs,hk,rfl,hz,Pj,Ea,mV,Yx,QD,FR,uU,fp⟩:=hrel;have PG:=zH Pj;have Fw:=zH Ea;have qQ:=zH mV;have Wx:=zH Yx;have EX:=zH QD;have mg:=zH FR;have HK:=zH uU;have HB:=zH fp;have Wj:=zH (HV.out.keep (fun b hb=>hb) uU);clear Pj Ea mV Yx QD FR uU fp;rcases k with _|j
  ·obtain rfl:z= -1:=by omega
   have cJ:val qs=val us/V∧val ts=val us%V:=by
    have h1:=qQ.out;have h2:=Wx.out;rw[List.drop_zero] at h1 h2;rw[Nat.pow_zero,Nat.one_mul] at h1;exact Hj (by rw[Nat.mul_comm,h1];omega) h2
   have HF:=zH cJ;clear cJ hz;go_wp2_with fail;go_ret
   exact⟨_,qs,ts,rfl,by rw[HG.out];exact mg.out,HF.out.1,Fw.out,EX.out,HF.out.2,PG.out,HB.out⟩
  ·obtain rfl:z=j:=by omega
   have hjn:j+(n+1)≤nu:=by omega
   have Pg:=abF (n:=n) (by rw[PG.out];exact hjn) Wx.out;have HWL:=zH Pg;clear Pg hz;go_wp2_with fail;refine(VE j EX.out.rsAll Wj.out hn (by omega) (by omega) HH.out (by rw[HVV.out];exact HWL.out)).mono ?_;rintro e w' ⟨q,mm,rfl,nR,yM,hqB,rfl⟩;rw[HVV.out] at nR yM;have Bc:=zH nR;have HHI:=zH yM;have Wv:=zH (EX.out.drewN mm);have afl:=zH (mg.out.drewN mm);have jg:Hid (aD S w (wr.drewN mm)):=zH HK.out;have bX:=zH (below_drewN HB.out mm);obtain⟨wd,yH⟩:∃x,wr.drewN mm=x:=⟨_,rfl⟩;rw[yH] at Wv afl jg bX;rw[yH];clear nR yM yH EX mg HK HB Wj;obtain⟨N,hN⟩:∃N,n+1=N:=⟨_,rfl⟩;have hN1:(n:Int)+1=(N:Int):=by omega
   have wN:IntKind.i64.wrap (N:Int)=(N:Int):=by rw[IntKind.wrap_i64];omega
   go_wp2_with fail;go_loopw [9,10,38] (fun bv cv iv wr=>∃(b c i:Nat) (xs:List (BitVec 32)),i≤N∧iv=.int .i64 i∧bv=.int .u64 b∧cv=.int .u64 c∧b≤1∧c<4294967296∧(n<i→c=0)∧xs.length=nu∧xs.take j=ts.take j∧xs.drop (j+i)=ts.drop (j+i)∧ val ((xs.drop j).take i)+q*val (vs.take i)=val ((ts.drop j).take i)+4294967296^i*(c+b)∧ Own wr aA bs 98 (.slice (some ⟨gu,0,none⟩) nu cu) xs∧Own wr aA g 98 (.slice (some ⟨g,0,none⟩) m m) qs∧aD S w wr∧Below bs w wr)
    (fun _ _ iv _=>N-(intOf iv).toNat)
   case atStart=>exact⟨0,0,0,ts,Nat.zero_le _,rfl,rfl,rfl,Nat.zero_le _,by omega,by omega,PG.out,rfl,rfl,by simp[val],Wv.out,afl.out,jg.out,bX.out⟩
   case round=>
    clear Wv afl jg bX;obtain⟨b,c,i,xs,hi,rfl,rfl,rfl,hb,hc,hcn,sR,hxt,hxd,mV,QD,FR,uU,fp⟩:=hrel;have HXL:=zH sR;have HXT:=zH hxt;have HXD:=zH hxd;have HIV:=zH mV;have EX:=zH QD;have mg:=zH FR;have HK:=zH uU;have HB:=zH fp;have HCN:=zH hcn;have Wj:Hid (RS wr S Av n cv vs):=zH (HV.out.keep (fun b hb=>hb) uU);clear sR hxt hxd mV QD FR uU fp hcn;by_cases bn:i<N
    ·have U4:(i:Int)<(N:Int):=by omega
     have NT:j+i<nu:=by omega
     obtain⟨y,hy⟩:∃y,(vs.getD i 0#32).toNat=y:=⟨_,rfl⟩;obtain⟨x,hx⟩:∃x,(xs.getD (j+i) 0#32).toNat=x:=⟨_,rfl⟩;have Ma:y<4294967296:=by rw[←hy];exact(vs.getD i 0#32).isLt
     have sR:x<4294967296:=by rw[←hx];exact(xs.getD (j+i) 0#32).isLt
     obtain⟨ef,qf⟩:=EX.out.limb (k:=j+i) (by rw[HXL.out];exact NT);rw[hx] at ef;obtain⟨p0,Xe⟩:∃p,q*y=p:=⟨_,rfl⟩;have aBB:p0≤4294967295*4294967295:=by rw[←Xe];exact Nat.mul_le_mul (by omega) (by omega)
     have aBC:(q:Int)*(y:Int)=(p0:Int):=by rw[←Xe];exact(Int.natCast_mul _ _).symm
     obtain⟨p,hp⟩:∃p,p0+c=p:=⟨_,rfl⟩;have hpi:(p0:Int)+(c:Int)=(p:Int):=by omega
     have Pk:p<18446744073709551616:=by omega
     have wp0:IntKind.u64.wrap (p0:Int)=(p0:Int):=by rw[IntKind.wrap_u64];omega
     have wp1:IntKind.u64.wrap (p:Int)=(p:Int):=by rw[IntKind.wrap_u64];omega
     obtain⟨c',hc'⟩:∃c',p/4294967296=c':=⟨_,rfl⟩;have hcd:(p:Int)/4294967296=(c':Int):=by rw[←hc'];rfl
     have ash:c'<4294967296:=by omega
     have hand:=Zk p Pk;obtain⟨pm,hpm⟩:∃z,p%4294967296=z:=⟨_,rfl⟩;rw[hpm] at hand;have aBy:pm<4294967296:=by omega
     obtain⟨s,hs⟩:∃s,4294967296+x-pm-b=s:=⟨_,rfl⟩;obtain⟨s1,jF⟩:∃s,4294967296+x=s:=⟨_,rfl⟩;obtain⟨s2,xO⟩:∃s,s1-pm=s:=⟨_,rfl⟩;have aqL:(4294967296:Int)+(x:Int)=(s1:Int):=by omega
     have aBq:(s1:Int)-(pm:Int)=(s2:Int):=by omega
     have hsi:(s2:Int)-(b:Int)=(s:Int):=by omega
     have ws1:IntKind.u64.wrap (s1:Int)=(s1:Int):=by rw[IntKind.wrap_u64];omega
     have ws2:IntKind.u64.wrap (s2:Int)=(s2:Int):=by rw[IntKind.wrap_u64];omega
     have ws:IntKind.u64.wrap (s:Int)=(s:Int):=by rw[IntKind.wrap_u64];omega
     have wx:IntKind.u64.wrap (x:Int)=(x:Int):=by rw[IntKind.wrap_u64];omega
     obtain⟨d,hd⟩:∃d,s/4294967296=d:=⟨_,rfl⟩;have hsd:(s:Int)/4294967296=(d:Int):=by rw[←hd];rfl
     have Vb:d≤1:=by omega
     obtain⟨b',xU⟩:∃b',1-d=b':=⟨_,rfl⟩;have hbi:(1:Int)-(d:Int)=(b':Int):=by omega
     have wb:IntKind.u64.wrap (b':Int)=(b':Int):=by rw[IntKind.wrap_u64];omega
     have GV:=oA s;obtain⟨t,ht⟩:∃t,BitVec.ofNat 32 s=t:=⟨_,rfl⟩;have W8:=iP s;rw[ht] at GV W8;obtain⟨k,ww⟩:∃k,j+i=k:=⟨_,rfl⟩;have hki:(i:Int)+(j:Int)=(k:Int):=by omega
     have wk:IntKind.i64.wrap (k:Int)=(k:Int):=by rw[IntKind.wrap_i64];omega
     have fI:(k:Int)<(nu:Int):=by omega
     have hw:=OW t (by rw[HXL.out];exact NT) HXT.out HXD.out;have e1:=cz (ts.drop j) i;have e2:=cz vs i;have db:=Qn (B:=4294967296) rfl sR (show q*y+c=p by rw[Xe];exact hp) (show 4294967296+x-p%4294967296-b=s by rw[hpm];exact hs) hb HIV.out;have e3:(ts.drop j).getD i 0#32=ts.getD (j+i) 0#32:=by rw[List.getD_eq_getElem?_getD,List.getD_eq_getElem?_getD,List.getElem?_drop]
     rw[e3,←hw.2.2.2,hx] at e1;rw[hy] at e2;rw[←e1,←e2,hc',hd,xU,←W8,←hw.2.2.1,←Nat.pow_succ] at db;have ajE:n<i+1→c'=0:=by
      intro h;have pG:y=0:=by
       rw[←hy,List.getD_eq_getElem?_getD,List.getElem?_eq_none (by rw[HV.out.len];omega)];rfl
      rw[pG,Nat.mul_zero] at Xe;omega
     rw[ww] at hw db ef qf;have dO:=zH hw.1;have Wi:=zH hw.2.1;have jI:=zH db;have awm:=zH ajE;have HY:=zH hy;clear hw db ajE hy hx e1 e2 e3 Xe hp hc' hpm hs jF xO hd xU ht W8 ww HIV hN hm;go_wp2_with fail;refine(qY i Wj.out).mono ?_;rintro e w' ⟨rfl,rfl⟩;rw[HY.out];go_wp2_with fail;go_roundw
     case rel=>exact⟨b',c',i+1,xs.set k t,by omega,by go_num,rfl,rfl,by omega,ash,awm.out,by rw[List.length_set];exact HXL.out,dO.out,Wi.out,jI.out,EX.out.setLimb k t,mg.out.setCell (by simp[Value.ownBlock];omega) (fun _ h=>h.elim) _,HK.out.setCell (fun hb=>(HSS.out _ hb).2 rfl) _,HB.out.setCell YH.1 _⟩
     case measure=>simp[intOf];omega
    ·have U4:i=N:=by omega
     have Ld:=HCN.out (by omega);have Mi:=HIV.out;rw[Ld] at Mi;clear Ld;rw[dU vs i (by rw[HV.out.len];omega),HVV.out] at Mi;have Pg:=iU ((xs.drop j).take i);have Sr:((xs.drop j).take i).length=i:=by rw[List.length_take,List.length_drop,HXL.out];omega
     rw[Sr] at Pg;have hVp:0<V:=Nat.lt_of_le_of_lt (Nat.zero_le _) Wx.out;have hVn:V<4294967296^n:=by rw[←HVV.out,←HV.out.len];exact iU vs
     rw[U4,←hN] at Mi Pg;have hxd:xs.drop (j+(n+1))=ts.drop (j+(n+1)):=by rw[hN,←U4];exact HXD.out
     obtain⟨h0,h1⟩:=Uh hVp Pg Bc.out HHI.out hb Mi;have hjm:(j:Int)<(m:Int):=by omega
     obtain⟨ef,qf⟩:=mg.out.limb (k:=j) (by rw[Fw.out];omega);rw[←HG.out] at ef qf;have vI:w.heap.size≠gu:=by have:=HG.out;omega
     have HGU:Hid (gu<w.heap.size):=zH (by rw[HG.out];exact YH.2);rcases Nat.eq_zero_or_pos b with hb0|hb0
     ·obtain⟨hq,Uw⟩:=h0 hb0;have Vm:decide (0<b)=false:=decide_eq_false (by omega);have hbg:(0<b)=False:=eq_false (by omega);have GV:=oA q;obtain⟨zq,Ur⟩:∃z,BitVec.ofNat 32 q=z:=⟨_,rfl⟩;have eh:=iP q;rw[Ur] at GV eh;have tv:zq.toNat=q:=by omega
      have aW:=DX (us:=us) (qs:=qs) (by rw[PG.out];exact hjn) hVn Wx.out (by rw[HXL.out,PG.out]) HXT.out hxd Uw hq tv (by rw[Fw.out];omega) qQ.out;have iM:=zH aW;have q1:Own (wr.setCell ⟨w.heap.size,j,none⟩ (.int .u32 (zq.toNat:Int))) aA bs 98 (.slice (some ⟨gu,0,none⟩) nu cu) xs:=EX.out.setCell (by simp[Value.ownBlock];omega) (fun _ h=>h.elim) _;have q2:Own (wr.setCell ⟨w.heap.size,j,none⟩ (.int .u32 (zq.toNat:Int))) aA g 98 (.slice (some ⟨g,0,none⟩) m m) (qs.set j zq):=by rw[HG.out];exact mg.out.setLimb j zq
      have q3:aD S w (wr.setCell ⟨w.heap.size,j,none⟩ (.int .u32 (zq.toNat:Int))):=HK.out.setCell (fun hb=>Nat.lt_irrefl _ (HSS.out _ hb).1) _;have q4:Below bs w (wr.setCell ⟨w.heap.size,j,none⟩ (.int .u32 (zq.toNat:Int))):=HB.out.setCell (by have:=HG.out;simp;omega) _;have Q1:=zH q1;have Q2:=zH q2;have Q3:=zH q3;have Q4:=zH q4;clear aW hq Uw h0 h1 Mi Pg Sr Ur eh tv hN hxd U4 hb0 q1 q2 q3 q4;have adx:((i:Int)<(N:Int))=False:=eq_false (by omega);go_wp2_with fail;go_roundw
      case rel=>exact⟨j,(j:Int)-1,xs,qs.set j zq,by omega,by go_num,by omega,HXL.out,by rw[List.length_set];exact Fw.out,iM.out.1,iM.out.2,Q1.out,Q2.out,Q3.out,Q4.out⟩
      case measure=>simp[intOf]
     ·obtain⟨hq,Uw⟩:=h1 hb0;have bd:b=1:=by omega
      obtain⟨q1,Eb⟩:∃q1,q-1=q1:=⟨_,rfl⟩;have Md:1≤q:=by rw[hq];exact Nat.le_add_left _ _
      have aBu:(q:Int)-1=(q1:Int):=by omega
      have aiJ:q1=val ((ts.drop j).take (n+1))/V:=by rw[←Eb,hq];rfl
      have wq1:IntKind.u64.wrap (q1:Int)=(q1:Int):=by rw[IntKind.wrap_u64];omega
      have GV:=oA q1;obtain⟨zq,Ur⟩:∃z,BitVec.ofNat 32 q1=z:=⟨_,rfl⟩;have eh:=iP q1;rw[Ur] at GV eh;have tv:zq.toNat=q1:=by omega
      have hbg:(0<b)=True:=eq_true (by omega);have Vm:decide (0<b)=true:=decide_eq_true (by omega);have adx:((i:Int)<(N:Int))=False:=eq_false (by omega);obtain⟨U1,hU1⟩:∃U1,val ((xs.drop j).take (n+1))=U1:=⟨_,rfl⟩;obtain⟨RR,hRR⟩:∃U1,val ((ts.drop j).take (n+1))%V=U1:=⟨_,rfl⟩;have kU:=zH hRR;have uq:=zH aiJ;have Rv:=zH tv;have auM:=zH hxd;have auP:=zH Uw;have HN:=zH hN;clear h0 h1 Mi Pg Sr Ur eh tv hN hxd U4 hb0 hq Uw hU1 hRR Eb aiJ bd HIV HXD;go_wp2_with fail;go_loopw [10,80] (fun cv iv wr=>∃(c i:Nat) (ys:List (BitVec 32)),i≤N∧iv=.int .i64 i∧cv=.int .u64 c∧c≤1∧ys.length=nu∧ys.take j=xs.take j∧ys.drop (j+i)=xs.drop (j+i)∧ val ((ys.drop j).take i)+4294967296^i*c=val ((xs.drop j).take i)+val (vs.take i)∧ Own wr aA bs 98 (.slice (some ⟨gu,0,none⟩) nu cu) ys∧Own wr aA g 98 (.slice (some ⟨g,0,none⟩) m m) qs∧aD S w wr∧Below bs w wr)
       (fun _ iv _=>N-(intOf iv).toNat)
      case atStart=>exact⟨0,0,xs,Nat.zero_le _,rfl,rfl,Nat.zero_le _,HXL.out,rfl,rfl,by simp[val],EX.out,mg.out,HK.out,HB.out⟩
      case round=>
       clear EX mg HK HB Wj hi bn adx ef qf hc hb hbg Vm;obtain⟨c,i,ys,hi,rfl,rfl,hc,Ma,hyt,Nv,mV,QD,FR,uU,fp⟩:=hrel;have HYL:=zH Ma;have HYT:=zH hyt;have HYD:=zH Nv;have HIV:=zH mV;have EX:=zH QD;have mg:=zH FR;have HK:=zH uU;have HB:=zH fp;have Wj:Hid (RS wr S Av n cv vs):=zH (HV.out.keep (fun b hb=>hb) uU);clear Ma hyt Nv mV QD FR uU fp;by_cases bn:i<N
       ·have U4:(i:Int)<(N:Int):=by omega
        have NT:j+i<nu:=by have:=HN.out;omega
        obtain⟨y,hy⟩:∃y,(vs.getD i 0#32).toNat=y:=⟨_,rfl⟩;obtain⟨x,hx⟩:∃x,(ys.getD (j+i) 0#32).toNat=x:=⟨_,rfl⟩;have Ma:y<4294967296:=by rw[←hy];exact(vs.getD i 0#32).isLt
        have sR:x<4294967296:=by rw[←hx];exact(ys.getD (j+i) 0#32).isLt
        obtain⟨ef,qf⟩:=EX.out.limb (k:=j+i) (by rw[HYL.out];exact NT);rw[hx] at ef;obtain⟨s,hs⟩:∃s,x+y+c=s:=⟨_,rfl⟩;obtain⟨s1,jF⟩:∃s,x+y=s:=⟨_,rfl⟩;have aqL:(x:Int)+(y:Int)=(s1:Int):=by omega
        have hsi:(s1:Int)+(c:Int)=(s:Int):=by omega
        have ws1:IntKind.u64.wrap (s1:Int)=(s1:Int):=by rw[IntKind.wrap_u64];omega
        have ws:IntKind.u64.wrap (s:Int)=(s:Int):=by rw[IntKind.wrap_u64];omega
        have wx:IntKind.u64.wrap (x:Int)=(x:Int):=by rw[IntKind.wrap_u64];omega
        obtain⟨d,hd⟩:∃d,s/4294967296=d:=⟨_,rfl⟩;have hsd:(s:Int)/4294967296=(d:Int):=by rw[←hd];rfl
        have Vb:d≤1:=by omega
        have aqD:=oA s;obtain⟨t,ht⟩:∃t,BitVec.ofNat 32 s=t:=⟨_,rfl⟩;have W8:=iP s;rw[ht] at aqD W8;obtain⟨k,ww⟩:∃k,j+i=k:=⟨_,rfl⟩;have hki:(i:Int)+(j:Int)=(k:Int):=by omega
        have wk:IntKind.i64.wrap (k:Int)=(k:Int):=by rw[IntKind.wrap_i64];omega
        have fI:(k:Int)<(nu:Int):=by omega
        have hw:=OW t (by rw[HYL.out];exact NT) HYT.out HYD.out;have e1:=cz (xs.drop j) i;have e2:=cz vs i;have db:=LJ hs HIV.out;have e3:(xs.drop j).getD i 0#32=xs.getD (j+i) 0#32:=by rw[List.getD_eq_getElem?_getD,List.getD_eq_getElem?_getD,List.getElem?_drop]
        rw[e3,←hw.2.2.2,hx] at e1;rw[hy] at e2;rw[←e1,←e2,hd,←W8,←hw.2.2.1,←Nat.pow_succ] at db;rw[ww] at hw db ef qf;have dO:=zH hw.1;have Wi:=zH hw.2.1;have jI:=zH db;have al6:Hid (∀z,Calls Tryz.prog 189 #[.slice Av n cv,.int .i64 i] (wr.drewN z) (gq (wr.drewN z) (.int .u64 (y:Int)))):=zH fun z=>by
         rw[←hy];exact qY i (Wj.out.drewN z)
        clear hw db hy hx e1 e2 e3 hs jF hd ht W8 ww HIV hm GV;go_wp2_with fail;go_quiet ((go_at_call 189;(with_reducible refine(al6.out _).mono ?_);rintro e w' ⟨rfl,rfl⟩;exact⟨rfl,_,rfl⟩))
        go_wp2_with fail;go_roundw
        case rel=>exact⟨d,i+1,ys.set k t,by omega,by go_num,rfl,Vb,by rw[List.length_set];exact HYL.out,dO.out,Wi.out,jI.out,(EX.out.drewN _).setLimb k t,(mg.out.drewN _).setCell (by simp[Value.ownBlock];omega) (fun _ h=>h.elim) _,(HK.out.drewN _).setCell (fun hb=>(HSS.out _ hb).2 rfl) _,(below_drewN HB.out _).setCell YH.1 _⟩
        case measure=>simp[intOf];omega
       ·have U4:i=n+1:=by have:=HN.out;omega
        have Mi:=HIV.out;have Pg:=iU ((ys.drop j).take i);have Sr:((ys.drop j).take i).length=i:=by rw[List.length_take,List.length_drop,HYL.out];omega
        rw[Sr] at Pg;rw[dU vs i (by rw[HV.out.len];omega),HVV.out] at Mi;rw[U4] at Mi Pg;have hR:=LI Pg Mi auP.out hc;have Nv:ys.drop (j+(n+1))=ts.drop (j+(n+1)):=by rw[←U4,HYD.out,U4];exact auM.out
        have aW:=DX (us:=us) (qs:=qs) (by rw[PG.out];exact hjn) hVn Wx.out (by rw[HYL.out,PG.out]) (HYT.out.trans HXT.out) Nv hR uq.out Rv.out (by rw[Fw.out];omega) qQ.out;have iM:=zH aW;obtain⟨ef,qf⟩:=mg.out.limb (k:=j) (by rw[Fw.out];omega);rw[←HG.out] at ef qf;have q1':Own (wr.setCell ⟨w.heap.size,j,none⟩ (.int .u32 (zq.toNat:Int))) aA bs 98 (.slice (some ⟨gu,0,none⟩) nu cu) ys:=EX.out.setCell (by simp[Value.ownBlock];omega) (fun _ h=>h.elim) _;have q2:Own (wr.setCell ⟨w.heap.size,j,none⟩ (.int .u32 (zq.toNat:Int))) aA g 98 (.slice (some ⟨g,0,none⟩) m m) (qs.set j zq):=by rw[HG.out];exact mg.out.setLimb j zq
        have q3:aD S w (wr.setCell ⟨w.heap.size,j,none⟩ (.int .u32 (zq.toNat:Int))):=HK.out.setCell (fun hb=>Nat.lt_irrefl _ (HSS.out _ hb).1) _;have q4:Below bs w (wr.setCell ⟨w.heap.size,j,none⟩ (.int .u32 (zq.toNat:Int))):=HB.out.setCell (by have:=HG.out;simp;omega) _;have Q1:=zH q1';have Q2:=zH q2;have Q3:=zH q3;have Q4:=zH q4;have adx:((i:Int)<(N:Int))=False:=eq_false (by omega);clear aW hR Nv Mi Pg Sr U4 q1' q2 q3 q4 bn;go_wp2_with fail;go_roundw
        case rel=>exact⟨j,(j:Int)-1,ys,qs.set j zq,by omega,by go_num,by omega,HYL.out,by rw[List.length_set];exact Fw.out,iM.out.1,iM.out.2,Q1.out,Q2.out,Q3.out,Q4.out⟩
        case measure=>simp[intOf]
theorem tT:∀(f x:Nat),x<2^f→x<2^Lib.bitLenAux f x∧Lib.bitLenAux f x≤f∧(0<x→2^(Lib.bitLenAux f x)≤2*x∧0<Lib.bitLenAux f x)
 | 0,x,h=>by
  have:x=0:=by simpa using h
  subst this;simp[Lib.bitLenAux]
 | f+1,x,h=>by
  unfold Lib.bitLenAux;split
  ·rename_i h0;subst h0;simp
  ·rename_i h0;obtain⟨h1,h2,h3⟩:=tT f (x/2) (by rw[Nat.pow_succ] at h;omega);obtain⟨k,hk⟩:∃k,Lib.bitLenAux f (x/2)=k:=⟨_,rfl⟩;rw[hk] at h1 h2 h3 ⊢;have e:2^(1+k)=2*2^k:=by rw[Nat.add_comm,Nat.pow_succ']
   refine⟨by rw[e];omega,by omega,fun _=>⟨?_,by omega⟩⟩;rw[e];rcases Nat.eq_zero_or_pos (x/2) with hz|hz
   ·have:k=0:=by
     have hx:x/2=0:=hz;rw[hx] at hk;cases f with
     | zero=>simpa[Lib.bitLenAux] using hk.symm
     | succ f=>simpa[Lib.bitLenAux] using hk.symm
    subst this;omega
   ·have:=(h3 hz).1;omega
theorem bitLen_le {x k:Nat} (hx:x<2^k) (hk:k≤64):Lib.bitLen x≤k:=by
 obtain⟨h1,h2,h3⟩:=tT 64 x (Nat.lt_of_lt_of_le hx (Nat.pow_le_pow_right (by omega) hk));unfold Lib.bitLen;rcases Nat.lt_or_ge k (Lib.bitLenAux 64 x) with hc|hc
 ·exfalso
  rcases Nat.eq_zero_or_pos x with h0|h0
  ·subst h0;simp[Lib.bitLenAux] at hc
  ·have h4:=(h3 h0).1;have h5:2^(k+1)≤2^Lib.bitLenAux 64 x:=Nat.pow_le_pow_right (by omega) hc;rw[Nat.pow_succ] at h5;omega
 ·exact hc
theorem O8 {t:Nat} (h0:0<t) (h:t<4294967296):Lib.bitLen t≤32∧0<Lib.bitLen t∧2147483648≤t*2^(32-Lib.bitLen t)∧t*2^(32-Lib.bitLen t)<4294967296:=by
 have G0:Lib.bitLen t≤32:=bitLen_le (by simpa using h) (by omega);obtain⟨h1,h2,h3⟩:=tT 64 t (by omega);have h4:=h3 h0;change t<2^Lib.bitLen t at h1
 change 2^Lib.bitLen t≤2*t∧0<Lib.bitLen t at h4
 obtain⟨k,hk⟩:∃k,Lib.bitLen t=k:=⟨_,rfl⟩;rw[hk] at G0 h1 h4 ⊢;refine⟨G0,h4.2,?_,?_⟩
 ·have e:2^k*2^(32-k)=4294967296:=by rw[←Nat.pow_add,show k+(32-k)=32 by omega]
  have:=Nat.mul_le_mul_right (2^(32-k)) h4.1;rw[e,Nat.mul_assoc] at this;omega
 ·have e:2^k*2^(32-k)=4294967296:=by rw[←Nat.pow_add,show k+(32-k)=32 by omega]
  have:=Nat.mul_lt_mul_of_pos_right h1 (Nat.two_pow_pos (32-k));omega
theorem Ik (us:List (BitVec 32)) (k:Nat) (hk:k≤us.length):val (us.drop k)*4294967296^k≤val us:=by
 have:=iN us k hk;rw[Nat.mul_comm] at this ⊢;rw[this,Nat.mul_comm];exact Nat.le_add_left _ _
theorem Rf {ys:List (BitVec 32)} {n t s V:Nat} (hl:ys.length=n+1) (hV:val ys=V) (ht:(ys.getD n 0#32).toNat=t) (h1:2147483648≤t*2^s) (h2:t*2^s<4294967296) : (fC (V*2^s)).length=n+1∧2147483648≤((fC (V*2^s)).getD n 0#32).toNat∧2147483648*4294967296^n≤V*2^s:=by
 have e1:=cz ys n;rw[dU ys (n+1) (by omega),hV,ht] at e1;have e2:=iU (ys.take n);rw[List.length_take,hl,Nat.min_eq_left (by omega)] at e2;have hp:=Nat.two_pow_pos s;have nR:2147483648*4294967296^n≤V*2^s:=by
  rw[e1,Nat.add_mul,Nat.mul_assoc,Nat.mul_comm 2147483648];have:=Nat.mul_le_mul_left (4294967296^n) h1;omega
 have yM:V*2^s<4294967296^(n+1):=by
  have h3:V<4294967296^n*(t+1):=by rw[Nat.mul_succ];omega
  have h4:V*2^s<4294967296^n*(t+1)*2^s:=Nat.mul_lt_mul_of_pos_right h3 hp;have h5:(t+1)*2^s≤4294967296:=by
   rcases Nat.lt_or_ge 32 s with hs|hs
   ·exfalso
    have Xa:0<t:=by
     rcases Nat.eq_zero_or_pos t with h|h
     ·subst h;omega
     ·exact h
    have:2^33≤2^s:=Nat.pow_le_pow_right (by omega) hs;have:1*2^s≤t*2^s:=Nat.mul_le_mul_right _ Xa;omega
   ·have e:4294967296=2^(32-s)*2^s:=by rw[←Nat.pow_add,show 32-s+s=32 by omega]
    rw[e] at h2 ⊢;exact Nat.mul_le_mul_right _ (Nat.lt_of_mul_lt_mul_right h2)
  have h6:4294967296^n*(t+1)*2^s≤4294967296^n*4294967296:=by rw[Nat.mul_assoc];exact Nat.mul_le_mul_left _ h5
  rw[Nat.pow_succ];omega
 have fL:(fC (V*2^s)).length=n+1:=by
  have a1:=jD yM;have a2:=FL (n:=V*2^s) (k:=n) (by omega);omega
 refine⟨fL,?_,nR⟩;have e3:=cz (fC (V*2^s)) n;rw[dU _ (n+1) (by omega),dj] at e3;have e4:=iU ((fC (V*2^s)).take n);rw[List.length_take,fL,Nat.min_eq_left (by omega)] at e4;obtain⟨x,hx⟩:∃x,((fC (V*2^s)).getD n 0#32).toNat=x:=⟨_,rfl⟩;rw[hx] at e3 ⊢;rcases Nat.lt_or_ge x 2147483648 with hc|hc
 ·exfalso
  have:=Nat.mul_le_mul_left (4294967296^n) (show x+1≤2147483648 from hc);rw[Nat.mul_succ] at this;have e5:4294967296^n*2147483648=2147483648*4294967296^n:=Nat.mul_comm _ _;omega
 ·exact hc
theorem Y4 {us xs:List (BitVec 32)} {n m s V:Nat} (W7:us.length=m+1) (sR:xs.length=m) (hU:val us=val xs*2^s) (hs:s≤31) (wt:n<m+1) (nR:2147483648*4294967296^n≤V):val (us.drop (m+1-(n+1)))<V:=by
 have h1:=Ik us (m-n) (by omega);have h2:=iU xs;rw[sR] at h2;have h3:(2:Nat)^s≤2^31:=Nat.pow_le_pow_right (by omega) hs;have h4:val xs*2^s≤val xs*2147483648:=Nat.mul_le_mul_left _ h3;have h5:val us<4294967296^m*2147483648:=by
  have:=Nat.mul_lt_mul_of_pos_right h2 (show 0<2147483648 by omega);omega
 have e:4294967296^m=4294967296^n*4294967296^(m-n):=by rw[←Nat.pow_add,show n+(m-n)=m by omega]
 have hh:m+1-(n+1)=m-n:=by omega
 rw[hh];rcases Nat.lt_or_ge (val (us.drop (m-n))) V with hc|hc
 ·exact hc
 ·exfalso
  have h6:2147483648*4294967296^n*4294967296^(m-n)≤val (us.drop (m-n))*4294967296^(m-n):=Nat.mul_le_mul_right _ (by omega);rw[Nat.mul_assoc,←e] at h6;omega
theorem XP (X V s:Nat):X*2^s/(V*2^s)=X/V:=Nat.mul_div_mul_right _ _ (Nat.two_pow_pos s)
theorem XO (X V s:Nat):X*2^s%(V*2^s)/2^s=X%V:=by
 rw[Nat.mul_mod_mul_right,Nat.mul_div_cancel _ (Nat.two_pow_pos s)]
end Go.Proofs.YtjlhbfbdcfajfaaGreatDoor
