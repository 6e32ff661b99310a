/- Tp7 Lnk1 Tp8 Tp9 Tp10 Tp11 Tp12 Tp13 Tp14 -/
import Derived.Test.YtdbpbfglhbiadaaGreatDoorF00
import Derived.Test.YtdbpbfglhbiadaaGreatDoorF32
import Derived.Test.YtdbpbfglhbiadaaGreatDoorF31
import Derived.Test.YtdbpbfglhbiadaaGreatDoorF16
import Derived.Test.YtdbpbfglhbiadaaGreatDoorF11
import Derived.Test.YtdbpbfglhbiadaaGreatDoorF09
set_option maxHeartbeats 8000000
set_option maxRecDepth 100000
namespace Go.Proofs.YtdbpbfglhbiadaaGreatDoor
open Go Go.RowKit
noncomputable def CV7:gb Tryz.prog:=ci Qi [⟨_,_,_,NR⟩,⟨_,_,_,ON⟩] [⟨_,_,_,_,_,LM⟩,⟨_,_,_,_,_,Le⟩]
abbrev aa4:SS:=.box 91 [.d .str,.d .str,.d (.list (.st 0)),.d tI]
abbrev PC:=dZ [.d .str,.d .str,.d (.list (.st 0)),.d tI]
noncomputable abbrev ajD:=Tryz.f58
abbrev blL:List (Nat×SS):=[(0,ym),(3,aa4),(4,Kg),(6,sV),(42,sD (.list (.st 0))),(43,sI),(44,sI)]
abbrev blO:List (Nat×SS):=[(0,ym),(3,aa4),(4,Kg),(6,sV)]
abbrev BlE:=LE blL blO [(0,ym)]
def fz:ao:=⟨⟨#[]⟩,[],0⟩
def blT (x:BX) (b:PC) (y:nG) (v:VX) (l:List ao) (a i:Int):T BlE:=
 .br (decide (i<a)) (.nd (0<=i/\i<l.length) (.nd (v.n 999999999999/\pv (l.getD i.toNat fz)) (.br (!((eH b.1 (l.getD i.toNat fz) v).1==0)) (.lf (.ret (zx (eH b.1 (l.getD i.toNat fz) v).1 (l.getD i.toNat fz).line) (x,())))
  (.nd (bX (i+1)) (.lf (.back (x,b,y,(eH b.1 (l.getD i.toNat fz) v).2,l,a,i+1,()))))))) (.lf (.out (x,b,y,v,())))
def gd (kind:ByteArray):List ao->VX->dH×VX
 | [],v=>(⟨0,0⟩,v)
 | f::l,v=>if(eH kind f v).1≠0 then(⟨(eH kind f v).1,f.line⟩,(eH kind f v).2) else gd kind l (eH kind f v).2
theorem AD (kind:ByteArray):∀(l:List ao) (v:VX),dM kind l v.v=((gd kind l v).1,(gd kind l v).2.v)
 | [],v=>rfl
 | f::l,v=>by
  unfold dM gd;rw[QH];split
  ·rfl
  ·exact AD kind l _
def blR (x:BX) (b:PC) (y:nG) (q:dH×VX):T BlE:=.br (!(q.1.no==0)) (.lf (.ret (zx q.1.no q.1.line) (x,()))) (.lf (.out (x,b,y,q.2,())))
theorem adM:eD (JG CV7 ajD pBd) 0 0 blL blO [(0,ym)] λ((x:BX),(b:PC),(y:nG),(v:VX),(l:List ao),(a:Int),(i:Int),_)=>
 .nd (0<=i/\i<=l.length/\a=l.length/\v.n i.toNat/\l.length<=274877906944/\∀f∈l,pv f) (blR x b y (gd b.1 (l.drop i.toNat) v)):=by
  refine eI _ (nL _ _) 99 0 0 blL blO [(0,ym)] (λ((x:BX),(b:PC),(y:nG),(v:VX),(l:List ao),(a:Int),(i:Int),_)=>blT x b y v l a i) (λ(_,_,_,_,(l:List ao),_,(i:Int),_)=>l.length-i.toNat) ?_;rintro⟨(x:BX),(b:PC),(y:nG),(v:VX),(l:List ao),(a:Int),(i:Int),_⟩ r _ ⟨⟨h0,h1,rfl,hv,hl,hf⟩,h⟩;obtain⟨j,rfl⟩:∃j:Nat,i=j:=⟨i.toNat,by omega⟩;rw[aae] at h hv;by_cases hi:j<l.length
  ·rw[getD_drop fz hi] at h;replace h:(blR x b y (if(eH b.1 (l.getD j fz) v).1≠0 then(⟨(eH b.1 (l.getD j fz) v).1,(l.getD j fz).line⟩,(eH b.1 (l.getD j fz) v).2) else gd b.1 (l.drop (j+1)) (eH b.1 (l.getD j fz) v).2)).hit r:=h;have hx:pv (l.getD j fz):=by
    rw[aac,aaa hi];exact hf _ (aaG _)
   have hn:(0:Int)<=j/\(j:Int)<l.length:=⟨by omega,by omega⟩;have Jh:v.n 999999999999:=⟨by have:=hv.1;omega,by have:=hv.2.1;omega,by have:=hv.2.2;omega⟩;have hb:∀q,(T.br (!((eH b.1 (l.getD j fz) v).1==0)) (.lf (.ret (zx (eH b.1 (l.getD j fz) v).1 (l.getD j fz).line) (x,()))) (.nd (bX ((j:Int)+1)) (.lf (.back (x,b,y,(eH b.1 (l.getD j fz) v).2,l,(l.length:Int),(j:Int)+1,())))):T BlE).hit q->(blT x b y v l l.length j).hit q:=λq hq=>
    aH (decide_eq_true hn.2) ⟨hn,by rw[aae];exact⟨⟨Jh,hx⟩,hq⟩⟩
   by_cases h3:(eH b.1 (l.getD j fz) v).1=0
   ·rw[if_neg (by simpa using h3)] at h;refine⟨_,hb _ (aP (by rw[h3];rfl) ⟨⟨by omega,by omega⟩,rfl⟩),by show l.length-((j:Int)+1).toNat<l.length-j;omega,⟨by omega,by omega,rfl,?_,hl,hf⟩,h⟩;exact QI hv
   ·rw[if_pos h3] at h;rw[<-(hB h).elim (λq=>q.2) (λq=>absurd q.1 (by rw[beq_false_of_ne h3];decide))];exact⟨_,hb _ (aH (by rw[beq_false_of_ne h3];rfl) rfl),rfl⟩
  ·rw[aaq (by omega)] at h;exact⟨_,aP (decide_eq_false (by omega)) rfl,h.2 rfl⟩
def VX.zero:VX:=((0,λ_=>none),(0,λ_=>none),(0,λ_=>none),false,[],[],⟨#[]⟩,())
def BX.nam (x:BX) (k m:ByteArray):BX:=(x.1,x.2.1,x.2.2.1,x.2.2.2.1,x.2.2.2.2.1,x.2.2.2.2.2.1,x.2.2.2.2.2.2.1,x.2.2.2.2.2.2.2.1,x.2.2.2.2.2.2.2.2.1,x.2.2.2.2.2.2.2.2.2.1,x.2.2.2.2.2.2.2.2.2.2.1,x.2.2.2.2.2.2.2.2.2.2.2.1,x.2.2.2.2.2.2.2.2.2.2.2.2.1,x.2.2.2.2.2.2.2.2.2.2.2.2.2.1,(x.names.1+1,lg .s x.names.2 k (m::(x.names.2 k).getD [])),x.2.2.2.2.2.2.2.2.2.2.2.2.2.2.2)
def ajG (b:av) (x:BX) (v:VX):T (XV×BX×Unit):=.br (!((dS b.kind b.line v.v).no==0)) (.lf (Fa (aE (dS b.kind b.line v.v)) x)) (.nd (x.ok 999999999998) (.lf (Fa (zx 0 0) (js b.kind b.name v.v x))))
def ajJ (b:av) (x:BX) (q:dH×VX):T (XV×BX×Unit):=.nd ((0:Int)<=0/\(0:Int)<=b.fields.length/\(b.fields.length:Int)=b.fields.length/\VX.zero.n 0/\b.fields.length<=274877906944/\∀f∈b.fields,pv f) (.br (!(q.1.no==0)) (.lf (Fa (aE q.1) x)) (ajG b x q.2))
def ajL (b:av) (x:BX):T (XV×BX×Unit):=.nd (cZ b.kind/\cZ b.name) (.br (!(eR b.kind b.name (x.d.of b.kind)==0)) (.lf (Fa (zx (eR b.kind b.name (x.d.of b.kind)) b.line) x))
 (.nd (Kt.ok .s b.kind) (.nd ((((x.names.2 b.kind).getD []).length+1)*17<=140737488355328) (.nd (Kt.ok .s b.kind/\b.kind=b.kind/\x.names.1<1000000000000) (ajJ b (x.nam b.kind b.name) (gd b.kind b.fields VX.zero))))))
def fa (b:av) (x:BX):dH×BX:=
 if eR b.kind b.name (x.d.of b.kind)≠0 then(⟨eR b.kind b.name (x.d.of b.kind),b.line⟩,x)
 else if(gd b.kind b.fields VX.zero).1.no≠0 then((gd b.kind b.fields VX.zero).1,x.nam b.kind b.name)
 else if(dS b.kind b.line (gd b.kind b.fields VX.zero).2.v).no≠0 then(dS b.kind b.line (gd b.kind b.fields VX.zero).2.v,x.nam b.kind b.name)
 else(⟨0,0⟩,js b.kind b.name (gd b.kind b.fields VX.zero).2.v (x.nam b.kind b.name))
theorem BX.d_nam (x:BX) (k m:ByteArray):(x.nam k m).d=x.d.named k m:=by
 have h:(λt=>(lg .s x.names.2 k (m::(x.names.2 k).getD []) t).map List.reverse)=setF x.d.names k (x.d.of k++[m]):=by
  refine(congrArg (λg:ByteArray->Option (List ByteArray)=>λt=>(g t).map List.reverse) (IJ x.names.2 k (m::(x.names.2 k).getD []))).trans ?_;funext t
  unfold setF;by_cases e:t=k
  ·subst e;rw[if_pos rfl,if_pos rfl];show some (m::(x.names.2 t).getD []).reverse=_;rw[abc];congr 2
   show _=((x.names.2 t).map List.reverse).getD [];cases x.names.2 t<;>rfl
  ·rw[if_neg e,if_neg e];rfl
 exact congrArg (λf=>({ x.d with names:=f }:cm)) h
theorem BX.ok_nam {x:BX} {n:Nat} (k m:ByteArray) (h:x.ok n):(x.nam k m).ok (n+1):=by
 obtain⟨h1,h2,h3,h4,h5⟩:=h;refine⟨Nat.le_succ_of_le h1,Nat.le_succ_of_le h2,Nat.le_succ_of_le h3,Nat.succ_le_succ h4,λt r e=>?_⟩;have e:setF x.names.2 k (m::(x.names.2 k).getD []) t=some r:=(congrFun (IJ x.names.2 k (m::(x.names.2 k).getD [])) t).symm.trans e;unfold setF at e;by_cases q:t=k
 ·subst q;rw[if_pos rfl] at e;obtain rfl:=aad e;cases hz:x.names.2 t with
  | none=>simp
  | some z=>have:=h5 t z hz;simpa using this
 ·rw[if_neg q] at e;exact Nat.le_succ_of_le (h5 t r e)
theorem OX (b:av) (x:BX):fw b x.d=((fa b x).1,(fa b x).2.d):=by
 have hz:dM b.kind b.fields aF.zero=_:=AD b.kind b.fields VX.zero;unfold fw fa;rw[hz];split
 ·rfl
 split
 ·rw[BX.d_nam]
 split
 ·rw[BX.d_nam]
 ·rw[Ld,BX.d_nam]
theorem J1 {b:av} {x:BX} {n:Nat} (h:x.ok n):(fa b x).2.ok (n+2):=by
 have h1:=BX.ok_nam b.kind b.name h;have up:∀{y:BX} {m:Nat},y.ok m->m<=n+2->y.ok (n+2):=λh hm=>⟨aao h.1 hm,aao h.2 hm,aao h.3 hm,aao h.4 hm,λk r e=>aao (h.5 k r e) hm⟩;unfold fa;split
 ·exact up h (by omega)
 split
 ·exact up h1 (by omega)
 split
 ·exact up h1 (by omega)
 ·exact Ie h1 (aam _)
theorem Tq:fk Tryz.prog 58 pBd [(0,ym),(1,.st 1)] [(0,ym)] λ((x:BX),(b:av),_)=>.nd (gv b/\x.ok 999999999997) (.lf (Fa (aE (fa b x).1) (fa b x).2)):=
 jA (C:=CV7) ((nL _ _).add 0 _ adM) 99 [(0,ym),(1,.st 1)] [(0,ym)] (λ((x:BX),(b:av),_)=>ajL b x) (λ⟨(x:BX),(b:av),_⟩ r _ ⟨⟨⟨s1,s2,s3,s4⟩,hx⟩,h⟩=>by
  obtain rfl:Fa (aE (fa b x).1) (fa b x).2=r:=h;refine⟨⟨s1,s2⟩,?_⟩;unfold fa;by_cases h1:eR b.kind b.name (x.d.of b.kind)=0
  ·rw[if_neg (by simpa using h1)];refine aP (by rw[h1];rfl) ⟨s1.kt,?_,⟨s1.kt,rfl,by have:=hx.m;omega⟩,⟨by omega,by omega,rfl,⟨aam _,aam _,aam _⟩,s3,λf hf=>⟨(s4 f hf).1.1,(s4 f hf).1.2.2,(s4 f hf).1.2.1⟩⟩,?_⟩
   ·cases hz:x.names.2 b.kind with
    | none=>decide
    | some z=>have:=hx.r _ z hz;show(z.length+1)*17<=_;omega
   by_cases h2:(gd b.kind b.fields VX.zero).1.no=0
   ·rw[if_neg (by simpa using h2)];refine aP (by rw[h2];rfl) ?_;by_cases h3:(dS b.kind b.line (gd b.kind b.fields VX.zero).2.v).no=0
    ·rw[if_neg (by simpa using h3)];exact aP (by rw[h3];rfl) ⟨BX.ok_nam _ _ hx,rfl⟩
    ·rw[if_pos h3];exact aH (by rw[beq_false_of_ne h3];rfl) rfl
   ·rw[if_pos h2];exact aH (by rw[beq_false_of_ne h2];rfl) rfl
  ·rw[if_pos h1];exact aH (by rw[beq_false_of_ne h1];rfl) rfl) Tryz.func58
theorem IX {w:World} {S:Nat->Prop} {v:Value} {x:ae} (h:SV w S v x) (p:Nat) (nm:ByteArray) (hp:w.cell? ⟨p,0,none⟩=some (.string nm)) : Calls Tryz.prog 108 #[v,.pointer (some ⟨p,0,none⟩)] w (iT w (.bool (decide (x.name=nm)))):=by
 obtain⟨cs,rfl,A,n,c,rfl,_⟩:=h;have bS:Below w.heap.size w (w.alloc (.cells #[.string x.name,.slice A n c,.int .i64 x.method,.int .i64 x.seats,.int .i64 x.ranks,.int .i64 x.digits,.int .i64 x.ties,.int .i64 x.over,.int .i64 x.skip] 87)):=(Below.refl _ _).alloc (aam _) _;have mC:cO (w.alloc (.cells #[.string x.name,.slice A n c,.int .i64 x.method,.int .i64 x.seats,.int .i64 x.ranks,.int .i64 x.digits,.int .i64 x.ties,.int .i64 x.over,.int .i64 x.skip] 87)) w.heap.size 87 #[.string x.name,.slice A n c,.int .i64 x.method,.int .i64 x.seats,.int .i64 x.ranks,.int .i64 x.digits,.int .i64 x.ties,.int .i64 x.over,.int .i64 x.skip]:=cO.new _ _ _;obtain⟨w1,fm⟩:∃q,w.alloc (.cells #[.string x.name,.slice A n c,.int .i64 x.method,.int .i64 x.seats,.int .i64 x.ranks,.int .i64 x.digits,.int .i64 x.ties,.int .i64 x.over,.int .i64 x.skip] 87)=q:=⟨_,rfl⟩;rw[fm] at bS mC;have c0:w1.cell? ⟨w.heap.size,0,none⟩=some (.string x.name):=mC.cell 0;have cp:w1.cell? ⟨p,0,none⟩=some (.string nm):=(bS.cell (World.block_lt_of_cell? w _ hp)).trans hp;have mQ:=zH fm;have eP:=zH bS;clear fm bS mC hp;go_enter Tryz.func108,Tryz.ntmps108;by_cases hn:x.name=nm
 ·have XQ:(x.name.toList==nm.toList)=true:=by rw[hn];simp
  rw[decide_eq_true hn];clear hn;go_upto_region 1 with(fail);rw[mQ.out];go_wp2_with fail;go_ret
  exact⟨rfl,eP.out⟩
 ·have XQ:(x.name.toList==nm.toList)=false:=(Lib.bytes_beq_false_iff _ _).2 hn;rw[decide_eq_false hn];clear hn;go_upto_region 1 with(fail);rw[mQ.out];go_wp2_with fail;go_ret
  exact⟨rfl,eP.out⟩
theorem RZ {w:World} {S:Nat->Prop} {A:Option Addr} {n c:Nat} {xs:List ae} (h:RS w S A n c xs) (hS:∀b,S b->b<w.heap.size) (p:Nat) (nm:ByteArray) (hp:w.cell? ⟨p,0,none⟩=some (.string nm)) : Calls Tryz.prog 107 #[.slice A n c,.func (.func 108) #[] #[.pointer (some ⟨p,0,none⟩)]] w (iT w (.int .i64 (bf nm xs 0))):=by
 obtain⟨z,hz⟩:∃z,bf nm xs 0=z:=⟨_,rfl⟩;rw[hz];have eQ:=hz.symm;have GC:=h.max;have H1:=zH h;have HZ:=zH eQ;have Dc:=zH h.len;have HP:=zH hp;clear h hz eQ hp;go_enter Tryz.func107,Tryz.ntmps107;go_wp2_with fail;go_loopw [8] (λiv wr=>∃k:Nat,iv=.int .i64 k/\k<=n/\z=bf nm (xs.drop k) k/\Below w.heap.size w wr) (λiv _=>n-(intOf iv).toNat)
 case atStart=>exact⟨0,rfl,aaS _,by simpa using HZ.out,Below.refl _ _⟩
 case round=>
  clear HZ;obtain⟨k,rfl,hk,Ek,hb⟩:=hrel;have Ps:=zH Ek;have HB:=zH hb;have HR:=zH (H1.out.below hb hS);clear Ek hb;by_cases hlt:k<n
  ·have iR:(k:Int)<(n:Int):=by omega
   obtain⟨b,o,x,cs,rfl,zO,hx,hr,UL⟩:=HR.out.load_at (λb h=>aay (hS b h) HB.out.size) hlt;have NA:(k:Int)<=(c:Int):=by have:=HR.out.cap;omega
   have eL:z=if x.name=nm then(k:Int) else bf nm (xs.drop (k+1)) (k+1):=by rw[Ps.out,jB hx];rfl
   have jm:=zH eL;obtain⟨A3,n3,c3,rfl,x1⟩:=hr;have gO:=UL wr (Below.refl _ _);have r0:wr.cell? ⟨b,o+k*9,none⟩=some (.string x.name):=gO.1 _ rfl;have r1:wr.cell? ⟨b,o+k*9+1,none⟩=some (.slice A3 n3 c3):=gO.2 1 _ rfl;have r2:wr.cell? ⟨b,o+k*9+2,none⟩=some (.int .i64 x.method):=gO.2 2 _ rfl;have r3:wr.cell? ⟨b,o+k*9+3,none⟩=some (.int .i64 x.seats):=gO.2 3 _ rfl;have r4:wr.cell? ⟨b,o+k*9+4,none⟩=some (.int .i64 x.ranks):=gO.2 4 _ rfl;have r5:wr.cell? ⟨b,o+k*9+5,none⟩=some (.int .i64 x.digits):=gO.2 5 _ rfl;have r6:wr.cell? ⟨b,o+k*9+6,none⟩=some (.int .i64 x.ties):=gO.2 6 _ rfl;have r7:wr.cell? ⟨b,o+k*9+7,none⟩=some (.int .i64 x.over):=gO.2 7 _ rfl;have r8:wr.cell? ⟨b,o+k*9+8,none⟩=some (.int .i64 x.skip):=gO.2 8 _ rfl;have hpr:wr.cell? ⟨p,0,none⟩=some (.string nm):=(HB.out.cell (World.block_lt_of_cell? w _ HP.out)).trans HP.out;have HC:=zH (IX (w:=wr) (S:=S) (x:=x) ⟨_,rfl,A3,n3,c3,rfl,x1⟩ p nm hpr);clear gO UL hx eL x1 hpr;go_wp2_with fail;refine HC.out.mono ?_;rintro e w3 ⟨rfl,jF⟩;have kR:=zH (ak HB.out jF);clear jF;by_cases hn:x.name=nm
   ·rw[decide_eq_true hn];have aW:z=(k:Int):=by rw[jm.out,if_pos hn]
    have db:=zH aW;clear aW hn;go_wp2_with fail;go_ret
    exact⟨by rw[db.out];rfl,kR.out⟩
   ·rw[decide_eq_false hn];have aW:z=bf nm (xs.drop (k+1)) (k+1):=by rw[jm.out,if_neg hn]
    have db:=zH aW;clear aW hn;go_wp2_with fail;go_roundw
    case rel=>exact⟨k+1,by go_num,by omega,db.out,kR.out⟩
    case measure=>simp[intOf];omega
  ·have nP:k=n:=by omega
   have aW:z= -1:=by
    rw[Ps.out,aaq (by rw[Dc.out];omega)];rfl
   have db:=zH aW;clear aW nP;go_wp2_with fail;go_ret
   exact⟨by rw[db.out];rfl,HB.out⟩
abbrev aca:FuncId:=108
theorem Na:au Tryz.prog 107 false (aD [(0,sD (.list (.st 3))),(1,.cl aca .str)] λ((l:List ae),(s:ByteArray),_)=>.lf (aI (bf s l 0))):=
 fK λw S x vs r hS he hl hr=>by
  obtain⟨(l:List ae),(s:ByteArray),_⟩:=x;obtain⟨v,h1,A,q,c,h2,h3,_⟩:=he 0 (.one (.list (.st 3) l false)) aah;obtain⟨v',ib,b,cs,hb,zP,Jt,h4'⟩:=he 1 (.one (.cl aca .str s)) (aap _ aah);obtain rfl:=hr
  match vs,hl,h1,ib with
  | [u,u'],_,h1,ib=>
   injection h1 with h1
   injection ib with ib
   subst h1 ib h2 zP;obtain rfl:cs=[.string s]:=Jt;exact Calls.mono (RZ h3 hS b s (h4' 0 _ rfl)) λ_ _ h=>E9 rfl h
theorem N7:au Tryz.prog 109 false (aD [(0,sD (.list .bool)),(1,sB)] λ((l:List Bool),(b:Bool),_)=>.lf (aB (l.contains b))):=
 fK λw S x vs r hS he hl hr=>by
  obtain⟨(l:List Bool),(s:Bool),_⟩:=x;obtain⟨v,h1,A,q,c,h2,h3,_⟩:=he 0 (.one (.list .bool l false)) aah;obtain⟨v',ib,zP,_⟩:=he 1 (aB s) (aap _ aah);obtain rfl:=hr
  match vs,hl,h1,ib with
  | [u,u'],_,h1,ib=>
   injection h1 with h1
   injection ib with ib
   subst h1 ib h2 zP;exact Calls.mono (Ss h3 s) λ_ _ h=>E9 rfl ⟨h.1,h.2▸Below.refl _ _⟩
noncomputable def CV8:gb Tryz.prog:=ci Qi [⟨_,_,_,Gy⟩,⟨_,_,_,Na⟩,⟨_,_,_,N7⟩] []
noncomputable abbrev abP:=Tryz.f60
abbrev csZ:List CS:=[.d .str,.d tI,.d tI,.d tI,.d (.list .str),.own (.st 3) 87,.zc (.st 4) (.st 10) 42,.d tI,.d tI,.d .bool,.d (.list .limb),.d (.list .limb),.d tI,.d .str,.mr .s .str 9,.d (.list (.st 14))]
abbrev csO:List CS:=[.d .str,.d tI,.d tI,.d tI,.d (.list .str),.own (.st 3) 87,.zip (.st 4) (.st 10) 42 [.d .str,.own tI 3,.own tI 3],.d tI,.d tI,.d .bool,.d (.list .limb),.d (.list .limb),.d tI,.d .str,.mr .s .str 9,.d (.list (.st 14))]
abbrev CM:SS:=.box 110 csZ
abbrev sBo:SS:=.box 110 csO
abbrev csD:List CS:=[.d (.mp .s tI),.d (.mp .s (.list .str)),.d (.mp .s tI),.d .bool,.d (.list .limb),.d (.list .limb),.d .str]
abbrev sVd:SS:=.box 180 csD
abbrev sUs:SS:=.c (.own .bool 4)
noncomputable abbrev Rq:Rg Tryz.prog abP.ntmps:=yT (fRg CV8 abP [0] [(2,[23])]) [(5,U0 0 6),(11,mD 0 6),(13,mD 0 6),(22,mD 0 6),(25,mD 0 6)] [(2,Oa 0 6 (.st 4) (.st 10))]
abbrev BZ:=dZ csZ
abbrev BO:=dZ csO
abbrev P7:=dZ csD
abbrev ZIn:=Nat×List ai×(ByteArray×List Int×List Int×Unit)×List ByteArray
namespace BO
abbrev prec (x:BO):List ByteArray:=x.2.2.2.2.1
abbrev cont (x:BO):List ae:=x.2.2.2.2.2.1
abbrev z (x:BO):ZIn:=x.2.2.2.2.2.2.1
abbrev ps (x:BO):List Int:=x.z.2.2.1.2.1
abbrev cs (x:BO):List Int:=x.z.2.2.1.2.2.1
def withP (x:BO) (ps cs:List Int):BO:=(x.1,x.2.1,x.2.2.1,x.2.2.2.1,x.2.2.2.2.1,x.2.2.2.2.2.1,(x.z.1,x.z.2.1,(x.z.2.2.1.1,ps,cs,()),x.z.2.2.2),x.2.2.2.2.2.2.2)
def cl (x:BO):BZ:=(x.1,x.2.1,x.2.2.1,x.2.2.2.1,x.2.2.2.2.1,x.2.2.2.2.2.1,(x.z.1,x.z.2.1++[⟨x.z.2.2.1.1,x.ps.reverse,x.cs.reverse⟩],x.z.2.2.2),x.2.2.2.2.2.2.2)
end BO
abbrev P7.ln (v:P7) (k:ByteArray):Int:=(v.2.2.1 k).getD (0:Int)
abbrev ZX:List (Nat×SS):=[(0,sBo),(2,Kg),(3,sUs),(4,sI),(5,sVd),(6,.sb 2 3),(23,sD (.list (.st 14))),(24,sI),(25,sI),(39,sL),(40,sI),(41,sI)]
abbrev k2L:List (Nat×SS):=[(0,sBo),(2,Kg),(3,sUs),(4,sI),(5,sVd),(6,.sb 2 3),(23,sD (.list (.st 14))),(24,sI),(25,sI),(84,sL),(85,sI),(86,sI)]
abbrev MX:List (Nat×SS):=[(0,sBo),(2,Kg),(3,sUs),(4,sI),(5,sVd),(6,.sb 2 3),(23,sD (.list (.st 14))),(24,sI),(25,sI)]
section
variable {L:Type} (back:BO->List Bool->L) (out:BO->List Bool->L) (ret:dH->BZ->L) (v:P7)
def lnE (k:ByteArray) (x:BO) (no:Int):T L:=.nd (Kt.ok .s k) (.lf (ret ⟨no,v.ln k⟩ x.cl))
def k1T (x:BO) (us:List Bool) (l:List ByteArray) (a j:Int):T L:=.br (decide (j<a)) (.nd (0<=j/\j<l.length) (.br (decide (Lib.idxOfS x.prec (l.getD j.toNat ⟨#[]⟩)<0)) (lnE ret v af x 2)
 (.nd (0<=Lib.idxOfS x.prec (l.getD j.toNat ⟨#[]⟩)/\Lib.idxOfS x.prec (l.getD j.toNat ⟨#[]⟩)<us.length) (.br (us.reverse.getD (Lib.idxOfS x.prec (l.getD j.toNat ⟨#[]⟩)).toNat false) (lnE ret v af x 3)
 (.nd (0<=Lib.idxOfS x.prec (l.getD j.toNat ⟨#[]⟩)/\Lib.idxOfS x.prec (l.getD j.toNat ⟨#[]⟩)<us.length) (.nd ((x.ps.length+1)*9<=140737488355328) (.nd (bX (j+1)) (.lf (back (x.withP (Lib.idxOfS x.prec (l.getD j.toNat ⟨#[]⟩)::x.ps) x.cs) (us.reverse.set (Lib.idxOfS x.prec (l.getD j.toNat ⟨#[]⟩)).toNat true).reverse))))))))) (.lf (out x us))
def k2T (x:BO) (us:List Bool) (l:List ByteArray) (a j:Int):T L:=.br (decide (j<a)) (.nd (0<=j/\j<l.length) (.br (decide (bf (l.getD j.toNat ⟨#[]⟩) x.cont.reverse 0<0)) (lnE ret v ax x 2)
 (.nd ((x.cs.length+1)*9<=140737488355328) (.nd (bX (j+1)) (.lf (back (x.withP x.ps (bf (l.getD j.toNat ⟨#[]⟩) x.cont.reverse 0::x.cs)) us)))))) (.lf (out x us))
def ZQ (x:BO) (u:List Bool) (ps cs:List Int) (e:dH):T L:=.br (e.no==0) (.lf (out (x.withP ps.reverse cs.reverse) u.reverse)) (.lf (ret e (x.withP ps.reverse cs.reverse).cl))
end
def o0 (prec:List ByteArray) (line:Int):List ByteArray->List Bool->List Int->(List Bool×List Int)×dH
 | [],u,a=>((u,a),⟨0,0⟩)
 | s::l,u,a=>if Lib.idxOfS prec s<0 then((u,a),⟨2,line⟩) else if u.getD (Lib.idxOfS prec s).toNat false=true then((u,a),⟨3,line⟩) else o0 prec line l (u.set (Lib.idxOfS prec s).toNat true) (a++[Lib.idxOfS prec s])
def yM (cont:List ae) (line:Int):List ByteArray->List Int->List Int×dH
 | [],a=>(a,⟨0,0⟩)
 | s::l,a=>if bf s cont 0<0 then(a,⟨2,line⟩) else yM cont line l (a++[bf s cont 0])
abbrev eF (e:dH):XV:=.agg [.val (.int .i64 e.no),.sym (.int .i64 e.line)]
section
variable (y:nG) (c:Int) (v:P7) (vs:List aF) (n i:Int) (l:List ByteArray) (a j:Int)
def Xa (x:BO) (us:List Bool):LE ZX MX [(0,CM)]:=.back (x,y,us,c,v,(),vs,n,i,l,a,j+1,())
def Gt (x:BO) (us:List Bool):LE ZX MX [(0,CM)]:=.out (x,y,us,c,v,(),vs,n,i,())
def xl (e:dH) (x:BZ):LE ZX MX [(0,CM)]:=.ret (eF e) (x,())
def W9 (x:BO) (us:List Bool):LE k2L MX [(0,CM)]:=.back (x,y,us,c,v,(),vs,n,i,l,a,j+1,())
def MW (x:BO) (us:List Bool):LE k2L MX [(0,CM)]:=.out (x,y,us,c,v,(),vs,n,i,())
def MV (e:dH) (x:BZ):LE k2L MX [(0,CM)]:=.ret (eF e) (x,())
end
def lnP (x:BO) (us:List Bool) (r:List Int) (l:List ByteArray) (a j:Int):Prop:=0<=j/\j<=l.length/\a=l.length/\us.length=x.prec.length/\(r.length:Int)=j/\l.length<=1099511627776
theorem RY (l:List ByteArray) (s:ByteArray):Lib.idxOfS l s<0\/(0<=Lib.idxOfS l s/\Lib.idxOfS l s<l.length):=by
 have:=gZ s l 0;have h2:∀(l:List ByteArray) (i:Nat),Lib.idxFromS l s i<0\/Lib.idxFromS l s i<i+l.length:=by
  intro l;induction l with
  | nil=>intro i;exact .inl (by show(-1:Int)<0;omega)
  | cons x l ih=>
   intro i;unfold Lib.idxFromS;rw[aar];split
   ·exact .inr (by omega)
   ·rcases ih (i+1) with h|h
    ·exact .inl h
    ·exact .inr (by omega)
 have h3:=h2 l 0;unfold Lib.idxOfS;omega
theorem Rn:eD Rq 1 2 ZX MX [(0,CM)] λ((x:BO),(y:nG),(us:List Bool),(c:Int),(v:P7),_,(vs:List aF),(n:Int),(i:Int),(l:List ByteArray),(a:Int),(j:Int),_)=>
 .nd (lnP x us x.ps l a j) (ZQ (Gt y c v vs n i) xl x (o0 x.prec (v.ln af) (l.drop j.toNat) us.reverse x.ps.reverse).1.1 (o0 x.prec (v.ln af) (l.drop j.toNat) us.reverse x.ps.reverse).1.2 x.cs.reverse (o0 x.prec (v.ln af) (l.drop j.toNat) us.reverse x.ps.reverse).2):=by
  refine eI _ (nL _ _) 99 1 2 ZX MX [(0,CM)] (λ((x:BO),(y:nG),(us:List Bool),(c:Int),(v:P7),_,(vs:List aF),(n:Int),(i:Int),(l:List ByteArray),(a:Int),(j:Int),_)=>k1T (Xa y c v vs n i l a j) (Gt y c v vs n i) xl v x us l a j)
   (λ(_,_,_,_,_,_,_,_,_,(l:List ByteArray),_,(j:Int),_)=>l.length-j.toNat) ?_
  rintro⟨(x:BO),(y:nG),(us:List Bool),(c:Int),(v:P7),⟨⟩,(vs:List aF),(n:Int),(i:Int),(l:List ByteArray),(a:Int),(j:Int),_⟩ r _ ⟨⟨h0,h1,rfl,h5,h6,h7⟩,hr⟩;have hr:(ZQ (Gt y c v vs n i) xl x _ _ _ _).hit r:=hr;obtain⟨k,rfl⟩:∃k:Nat,j=k:=⟨j.toNat,by omega⟩;rw[aae] at hr;have Nh:x.withP x.ps.reverse.reverse x.cs.reverse.reverse=x:=by rw[aag,aag];rfl
  show∃q,(k1T _ _ _ v x us l l.length k).hit q/\_;unfold k1T;by_cases hk:k<l.length
  ·rw[getD_drop (⟨#[]⟩:ByteArray) hk,o0] at hr;rw[aae];have hE:∀no:Int,no≠0->(ZQ (Gt y c v vs n i) xl x us.reverse x.ps.reverse x.cs.reverse ⟨no,v.ln af⟩).hit r->(lnE (L:=LE ZX MX [(0,CM)]) xl v af x no).hit r/\xl ⟨no,v.ln af⟩ x.cl=r:=λno hn h=>by
    have h:=h.2 (beq_false_of_ne hn);rw[Nh] at h;exact⟨⟨oJ,h⟩,h⟩
   have hn:(0:Int)<=k/\(k:Int)<l.length:=⟨by omega,by omega⟩;split at hr
   ·rename_i hlt;obtain⟨q1,rfl⟩:=hE 2 (by decide) hr;exact⟨_,aH (decide_eq_true hn.2) ⟨hn,aH (decide_eq_true hlt) q1⟩,rfl⟩
   ·rename_i hge;have hx:=(RY x.prec (l.getD k ⟨#[]⟩)).resolve_left hge;split at hr
    ·rename_i hu;obtain⟨q1,rfl⟩:=hE 3 (by decide) hr;exact⟨_,aH (decide_eq_true hn.2) ⟨hn,aP (decide_eq_false hge) ⟨⟨hx.1,by omega⟩,aH hu q1⟩⟩,rfl⟩
    ·rename_i hu;refine⟨_,aH (decide_eq_true hn.2) ⟨hn,aP (decide_eq_false hge) ⟨⟨hx.1,by omega⟩,aP (by simpa using hu) ⟨⟨hx.1,by omega⟩,by omega,⟨by omega,by omega⟩,rfl⟩⟩⟩,?_,?_⟩
     ·show l.length-(k+1)<l.length-k;omega
     ·refine⟨⟨by omega,by omega,rfl,?_,?_,h7⟩,?_⟩
      ·rw[aak,aaJ,aak];exact h5
      ·show((x.ps.length+1:Nat):Int)=(k:Int)+1;omega
      ·show(ZQ _ _ _ _ _ _ _).hit r;rw[aag];have e:(Lib.idxOfS x.prec (l.getD k ⟨#[]⟩)::x.ps).reverse=x.ps.reverse++[Lib.idxOfS x.prec (l.getD k ⟨#[]⟩)]:=by simp
       rw[<-e] at hr;exact hr
  ·rw[aaq (by omega),o0] at hr;have h:=hr.1 rfl;rw[Nh,aag] at h;obtain rfl:=h;exact⟨_,aP (decide_eq_false (by omega)) rfl,rfl⟩
theorem Rm:eD Rq 2 5 k2L MX [(0,CM)] λ((x:BO),(y:nG),(us:List Bool),(c:Int),(v:P7),_,(vs:List aF),(n:Int),(i:Int),(l:List ByteArray),(a:Int),(j:Int),_)=>
 .nd (lnP x us x.cs l a j) (ZQ (MW y c v vs n i) MV x us.reverse x.ps.reverse (yM x.cont.reverse (v.ln ax) (l.drop j.toNat) x.cs.reverse).1 (yM x.cont.reverse (v.ln ax) (l.drop j.toNat) x.cs.reverse).2):=by
  refine eI _ (nL _ _) 99 2 5 k2L MX [(0,CM)] (λ((x:BO),(y:nG),(us:List Bool),(c:Int),(v:P7),_,(vs:List aF),(n:Int),(i:Int),(l:List ByteArray),(a:Int),(j:Int),_)=>k2T (W9 y c v vs n i l a j) (MW y c v vs n i) MV v x us l a j)
   (λ(_,_,_,_,_,_,_,_,_,(l:List ByteArray),_,(j:Int),_)=>l.length-j.toNat) ?_
  rintro⟨(x:BO),(y:nG),(us:List Bool),(c:Int),(v:P7),⟨⟩,(vs:List aF),(n:Int),(i:Int),(l:List ByteArray),(a:Int),(j:Int),_⟩ r _ ⟨⟨h0,h1,rfl,h5,h6,h7⟩,hr⟩;have hr:(ZQ (MW y c v vs n i) MV x _ _ _ _).hit r:=hr;obtain⟨k,rfl⟩:∃k:Nat,j=k:=⟨j.toNat,by omega⟩;rw[aae] at hr;have Nh:x.withP x.ps.reverse.reverse x.cs.reverse.reverse=x:=by rw[aag,aag];rfl
  show∃q,(k2T _ _ _ v x us l l.length k).hit q/\_;unfold k2T;by_cases hk:k<l.length
  ·rw[getD_drop (⟨#[]⟩:ByteArray) hk,yM] at hr;rw[aae];have hn:(0:Int)<=k/\(k:Int)<l.length:=⟨by omega,by omega⟩;split at hr
   ·rename_i hlt;have h:=hr.2 rfl;rw[Nh] at h;obtain rfl:=h;exact⟨_,aH (decide_eq_true hn.2) ⟨hn,aH (decide_eq_true hlt) ⟨oJ,rfl⟩⟩,rfl⟩
   ·rename_i hge;refine⟨_,aH (decide_eq_true hn.2) ⟨hn,aP (decide_eq_false hge) ⟨by omega,⟨by omega,by omega⟩,rfl⟩⟩,?_,?_⟩
    ·show l.length-(k+1)<l.length-k;omega
    ·refine⟨⟨by omega,by omega,rfl,h5,?_,h7⟩,?_⟩
     ·show((x.cs.length+1:Nat):Int)=(k:Int)+1;omega
     ·have e:(bf (l.getD k ⟨#[]⟩) x.cont.reverse 0::x.cs).reverse=x.cs.reverse++[bf (l.getD k ⟨#[]⟩) x.cont.reverse 0]:=by simp
      rw[<-e] at hr;exact hr
  ·rw[aaq (by omega),yM] at hr;have h:=hr.1 rfl;rw[Nh,aag] at h;obtain rfl:=h;exact⟨_,aP (decide_eq_false (by omega)) rfl,rfl⟩
abbrev k0L:List (Nat×SS):=[(0,CM),(2,Kg),(3,sUs),(23,sD (.list (.st 14))),(24,sI),(25,sI)]
abbrev k0O:List (Nat×SS):=[(0,CM),(2,Kg),(3,sUs)]
abbrev K0:=LE k0L k0O [(0,CM)]
abbrev ZcB:=Nat×List ai×List ByteArray
namespace BZ
abbrev prec (x:BZ):List ByteArray:=x.2.2.2.2.1
abbrev cont (x:BZ):List ae:=x.2.2.2.2.2.1
abbrev z (x:BZ):ZcB:=x.2.2.2.2.2.2.1
def withZ (x:BZ) (d:List ai) (r:List ByteArray):BZ:=(x.1,x.2.1,x.2.2.1,x.2.2.2.1,x.2.2.2.2.1,x.2.2.2.2.2.1,(x.z.1,d,r),x.2.2.2.2.2.2.2)
def op (x:BZ):BO:=(x.1,x.2.1,x.2.2.1,x.2.2.2.1,x.2.2.2.2.1,x.2.2.2.2.2.1,(x.z.1,x.z.2.1,(x.z.2.2.getD 0 ⟨#[]⟩,[],[],()),x.z.2.2.drop 1),x.2.2.2.2.2.2.2)
end BZ
section
variable (y:nG) (vs:List aF) (n i:Int)
def Rr {L:Type} (out:BO->List Bool->T L) (ret:dH->BZ->L) (x:BO) (u:List Bool) (ps cs:List Int) (e:dH):T L:=.br (e.no==0) (out (x.withP ps.reverse cs.reverse) u.reverse) (.lf (ret e (x.withP ps.reverse cs.reverse).cl))
def xm (e:dH) (x:BZ):K0:=.ret (eF e) (x,())
def k0E (x:BO) (us:List Bool):T K0:=.nd (bX (i+1)) (.lf (.back (x.cl,y,us,vs,n,i+1,())))
def k0D (v:aF) (x:BO) (us:List Bool):T K0:=.nd (Kt.ok .s ax) (.nd (lnP x us x.cs (v.s ax) (v.s ax).length 0) (Rr (k0E y vs n i) xm x us.reverse x.ps.reverse (yM x.cont.reverse (v.l ax) ((v.s ax).drop (Int.toNat 0)) x.cs.reverse).1 (yM x.cont.reverse (v.l ax) ((v.s ax).drop (Int.toNat 0)) x.cs.reverse).2))
def k0C (v:aF) (x:BO) (us:List Bool):T K0:=.nd (Kt.ok .s af) (.nd (lnP x us x.ps (v.s af) (v.s af).length 0) (Rr (k0D y vs n i v) xm x (o0 x.prec (v.l af) ((v.s af).drop (Int.toNat 0)) us.reverse x.ps.reverse).1.1 (o0 x.prec (v.l af) ((v.s af).drop (Int.toNat 0)) us.reverse x.ps.reverse).1.2 x.cs.reverse (o0 x.prec (v.l af) ((v.s af).drop (Int.toNat 0)) us.reverse x.ps.reverse).2))
def k0B (x:BZ) (us:List Bool):T K0:=.br (decide (i<n)) (.nd (0<=i/\i<vs.length) (.nd (x.z.2.1.length<x.z.1) (.nd (i=x.z.2.1.length) (k0C y vs n i (vs.getD i.toNat aF.zero) x.op us)))) (.lf (.out (x,y,us,())))
end
def ol (prec:List ByteArray) (cont:List ae):List aF->List ai->List ByteArray->List Bool->(List ai×List ByteArray×List Bool)×dH
 | [],d,r,u=>((d,r,u),⟨0,0⟩)
 | v::vs,d,r,u=>
  if(o0 prec (v.l af) (v.s af) u []).2.no=0 then
   if(yM cont (v.l ax) (v.s ax) []).2.no=0 then ol prec cont vs (d++[⟨r.getD 0 ⟨#[]⟩,(o0 prec (v.l af) (v.s af) u []).1.2,(yM cont (v.l ax) (v.s ax) []).1⟩]) (r.drop 1) (o0 prec (v.l af) (v.s af) u []).1.1
   else((d++[⟨r.getD 0 ⟨#[]⟩,(o0 prec (v.l af) (v.s af) u []).1.2,(yM cont (v.l ax) (v.s ax) []).1⟩],r.drop 1,(o0 prec (v.l af) (v.s af) u []).1.1),(yM cont (v.l ax) (v.s ax) []).2)
  else((d++[⟨r.getD 0 ⟨#[]⟩,(o0 prec (v.l af) (v.s af) u []).1.2,[]⟩],r.drop 1,(o0 prec (v.l af) (v.s af) u []).1.1),(o0 prec (v.l af) (v.s af) u []).2)
theorem Ge (prec:List ByteArray) (line:Int):∀(l:List ByteArray) (u:List Bool) (a:List Int),(o0 prec line l u a).1.1.length=u.length
 | [],_,_=>rfl
 | s::l,u,a=>by
  unfold o0;split
  ·rfl
  split
  ·rfl
  ·rw[Ge prec line l,aaJ]
def vOk (v:aF):Prop:=(v.s af).length<=1099511627776/\(v.s ax).length<=1099511627776
def lnR (x:BZ) (y:nG) (q:(List ai×List ByteArray×List Bool)×dH):T K0:=.br (q.2.no==0) (.lf (.out (x.withZ q.1.1 q.1.2.1,y,q.1.2.2.reverse,()))) (.lf (.ret (eF q.2) (x.withZ q.1.1 q.1.2.1,())))
theorem Ro:eD Rq 0 0 k0L k0O [(0,CM)] λ((x:BZ),(y:nG),(us:List Bool),(vs:List aF),(n:Int),(i:Int),_)=>
 .nd (0<=i/\i<=vs.length/\n=vs.length/\i=x.z.2.1.length/\x.z.1=vs.length/\us.length=x.prec.length/\∀v∈vs,vOk v) (lnR x y (ol x.prec x.cont.reverse (vs.drop i.toNat) x.z.2.1 x.z.2.2 us.reverse)):=by
  refine eI _ (((nL _ _).add 1 _ Rn).add 2 _ Rm) 99 0 0 k0L k0O [(0,CM)] (λ((x:BZ),(y:nG),(us:List Bool),(vs:List aF),(n:Int),(i:Int),_)=>k0B y vs n i x us)
   (λ(_,_,_,(vs:List aF),_,(i:Int),_)=>vs.length-i.toNat) ?_
  rintro⟨(x:BZ),(y:nG),(us:List Bool),(vs:List aF),(n:Int),(i:Int),_⟩ r pZ ⟨⟨h0,h1,rfl,h3,h4,h5,h6⟩,hr⟩;have zJ:vs.length<=9223372036854775807:=pZ.2.2.2.1;obtain⟨k,rfl⟩:∃k:Nat,i=k:=⟨i.toNat,by omega⟩;rw[aae] at hr;show∃q,(k0B y vs vs.length k x us).hit q/\_;unfold k0B;by_cases hk:k<vs.length
  ·rw[getD_drop aF.zero hk,ol] at hr;rw[aae];obtain⟨v,hv⟩:∃v,vs.getD k aF.zero=v:=⟨_,rfl⟩;have rW:vOk v:=h6 v (by rw[<-hv,aac,aaa hk];exact aaG _);rw[hv] at hr ⊢;have hn:(0:Int)<=k/\(k:Int)<vs.length:=⟨by omega,by omega⟩;have pre:∀{q},(Rr (k0D y vs vs.length k v) xm x.op (o0 x.prec (v.l af) (v.s af) us.reverse []).1.1 (o0 x.prec (v.l af) (v.s af) us.reverse []).1.2 [] (o0 x.prec (v.l af) (v.s af) us.reverse []).2).hit q->(T.br (decide ((k:Int)<vs.length)) (.nd (0<=(k:Int)/\(k:Int)<vs.length) (.nd (x.z.2.1.length<x.z.1) (.nd ((k:Int)=x.z.2.1.length) (k0C y vs vs.length k v x.op us)))) (.lf (.out (x,y,us,())))).hit q:=λhq=>
    aH (decide_eq_true hn.2) ⟨hn,by omega,h3,oJ,⟨by omega,by omega,rfl,h5,rfl,rW.1⟩,hq⟩
   have bm:=Ge x.prec (v.l af) (v.s af) us.reverse [];obtain⟨q,hq⟩:∃q,o0 x.prec (v.l af) (v.s af) us.reverse []=q:=⟨_,rfl⟩;obtain⟨p,hp⟩:∃p,yM x.cont.reverse (v.l ax) (v.s ax) []=p:=⟨_,rfl⟩;rw[hq] at hr bm pre;rw[hp] at hr;rw[aak] at bm;by_cases e1:q.2.no=0
   ·rw[if_pos e1] at hr;have abo:∀{t},(Rr (k0E y vs vs.length k) xm (x.op.withP q.1.2.reverse []) q.1.1.reverse.reverse q.1.2.reverse.reverse p.1 p.2).hit t->(k0D y vs vs.length k v (x.op.withP q.1.2.reverse []) q.1.1.reverse).hit t:=λht=>
     ⟨oJ,⟨by omega,by omega,rfl,by rw[aak,bm];exact h5,rfl,rW.2⟩,by
      have:yM (x.op.withP q.1.2.reverse []).cont.reverse (v.l ax) ((v.s ax).drop (Int.toNat 0)) (x.op.withP q.1.2.reverse []).cs.reverse=p:=hp;rw[this];exact ht⟩
    have ex:((x.op.withP q.1.2.reverse []).withP q.1.2.reverse.reverse.reverse p.1.reverse).cl=x.withZ (x.z.2.1++[⟨x.z.2.2.getD 0 ⟨#[]⟩,q.1.2,p.1⟩]) (x.z.2.2.drop 1):=by
     have e3:q.1.2.reverse.reverse.reverse.reverse=q.1.2:=by simp only[aag]
     have e4:p.1.reverse.reverse=p.1:=aag _;show x.withZ (x.z.2.1++[⟨x.z.2.2.getD 0 ⟨#[]⟩,q.1.2.reverse.reverse.reverse.reverse,p.1.reverse.reverse⟩]) (x.z.2.2.drop 1)=_;rw[e3,e4]
    by_cases e2:p.2.no=0
    ·rw[if_pos e2] at hr;refine⟨.back (x.withZ (x.z.2.1++[⟨x.z.2.2.getD 0 ⟨#[]⟩,q.1.2,p.1⟩]) (x.z.2.2.drop 1),y,q.1.1.reverse.reverse.reverse,vs,(vs.length:Int),(k:Int)+1,()),pre (aH (by rw[e1];rfl) (abo (aH (by rw[e2];rfl) ⟨⟨by omega,by omega⟩,by rw[ex];rfl⟩))),?_,?_⟩
     ·show vs.length-(k+1)<vs.length-k;omega
     ·refine⟨⟨by omega,by omega,rfl,?_,h4,?_,h6⟩,?_⟩
      ·show(k:Int)+1=((x.z.2.1++[_]).length:Nat);rw[aaj,aaA];omega
      ·show q.1.1.reverse.reverse.reverse.length=x.prec.length;rw[aak,aak,aak,bm];exact h5
      ·show(lnR _ _ (ol _ _ (vs.drop (k+1)) _ _ q.1.1.reverse.reverse.reverse.reverse)).hit r;simp only[aag];exact hr
    ·rw[if_neg e2] at hr;obtain rfl:=hr.2 (beq_false_of_ne e2);refine⟨xm p.2 (x.withZ (x.z.2.1++[⟨x.z.2.2.getD 0 ⟨#[]⟩,q.1.2,p.1⟩]) (x.z.2.2.drop 1)),pre (aH (by rw[e1];rfl) (abo (aP (beq_false_of_ne e2) ?_))),rfl⟩;rw[ex];rfl
   ·rw[if_neg e1] at hr;obtain rfl:=hr.2 (beq_false_of_ne e1);refine⟨xm q.2 (x.withZ (x.z.2.1++[⟨x.z.2.2.getD 0 ⟨#[]⟩,q.1.2,[]⟩]) (x.z.2.2.drop 1)),pre (aP (beq_false_of_ne e1) ?_),rfl⟩;have ex:(x.op.withP q.1.2.reverse ([]:List Int).reverse).cl=x.withZ (x.z.2.1++[⟨x.z.2.2.getD 0 ⟨#[]⟩,q.1.2,[]⟩]) (x.z.2.2.drop 1):=by
     show x.withZ (x.z.2.1++[⟨x.z.2.2.getD 0 ⟨#[]⟩,q.1.2.reverse.reverse,[]⟩]) (x.z.2.2.drop 1)=_;rw[aag]
    rw[ex];rfl
  ·rw[aaq (by omega),ol] at hr;have h:=hr.1 rfl;rw[aag] at h;obtain rfl:=h;exact⟨_,aP (decide_eq_false (by omega)) rfl,rfl⟩
abbrev csY:List CS:=[.d .str,.d tI,.d tI,.d tI,.d (.list .str),.own (.st 3) 87,.zc (.st 4) (.st 10) 42,.d tI,.d tI,.d .bool,.d (.list .limb),.d (.list .limb),.d tI,.d .str,.mr .s .str 9,.any]
abbrev sBy:SS:=.box 110 csY
abbrev BY:=dZ csY
def BZ.y (x:BZ):BY:=(x.1,x.2.1,x.2.2.1,x.2.2.2.1,x.2.2.2.2.1,x.2.2.2.2.2.1,x.2.2.2.2.2.2.1,x.2.2.2.2.2.2.2.1,x.2.2.2.2.2.2.2.2.1,x.2.2.2.2.2.2.2.2.2.1,x.2.2.2.2.2.2.2.2.2.2.1,x.2.2.2.2.2.2.2.2.2.2.2.1,x.2.2.2.2.2.2.2.2.2.2.2.2.1,x.2.2.2.2.2.2.2.2.2.2.2.2.2.1,x.2.2.2.2.2.2.2.2.2.2.2.2.2.2.1,(),())
abbrev Kb (r:XV) (x:BZ):XV×BY×Unit:=(r,x.y,())
abbrev BX.prec (x:BX):List ByteArray:=x.2.2.2.2.1
def BX.zb (x:BX):BZ:=(x.1,x.2.1,x.2.2.1,x.2.2.2.1,x.2.2.2.2.1,x.2.2.2.2.2.1,(x.styn.length,[],x.styn.reverse),x.2.2.2.2.2.2.2.1,x.2.2.2.2.2.2.2.2.1,x.2.2.2.2.2.2.2.2.2.1,x.2.2.2.2.2.2.2.2.2.2.1,x.2.2.2.2.2.2.2.2.2.2.2.1,x.2.2.2.2.2.2.2.2.2.2.2.2.1,x.2.2.2.2.2.2.2.2.2.2.2.2.2.1,x.2.2.2.2.2.2.2.2.2.2.2.2.2.2.1,x.vals.reverse,())
def BX.go (x:BX):(List ai×List ByteArray×List Bool)×dH:=ol x.prec x.cont.reverse (x.vals.reverse.drop (Int.toNat 0)) [] x.styn.reverse (List.replicate (Int.toNat x.prec.length) false).reverse
def lkT (x:BX):T (XV×BY×Unit):=.nd ((0:Int)<=x.prec.length/\(x.prec.length:Int)=x.prec.length/\(x.prec.length:Int)*(1+1)<=281474976710656)
 (.nd ((0:Int)<=0/\(0:Int)<=x.vals.reverse.length/\(x.vals.length:Int)=x.vals.reverse.length/\(0:Int)=x.zb.z.2.1.length/\x.zb.z.1=x.vals.reverse.length/\(List.replicate (Int.toNat x.prec.length) false).length=x.zb.prec.length/\∀v∈x.vals.reverse,vOk v)
 (.br (x.go.2.no==0) (.br (x.go.1.2.2.reverse.reverse.contains false) (.lf (Kb (zx 6 0) (x.zb.withZ x.go.1.1 x.go.1.2.1))) (.lf (Kb (zx 0 0) (x.zb.withZ x.go.1.1 x.go.1.2.1)))) (.lf (Kb (aE x.go.2) (x.zb.withZ x.go.1.1 x.go.1.2.1)))))
def fA (x:BX):dH×BZ:=(if x.go.2.no=0 then(if x.go.1.2.2.contains false then⟨6,0⟩ else⟨0,0⟩) else x.go.2,x.zb.withZ x.go.1.1 x.go.1.2.1)
def ua (x:BX):Prop:=x.prec.length<=140737488355328/\x.styn.length=x.vals.length/\∀v∈x.vals,vOk v
theorem ME:fk Tryz.prog 60 [0] [(0,ym)] [(0,sBy)] λ((x:BX),_)=>.nd (ua x) (.lf (Kb (aE (fA x).1) (fA x).2)):=by
 refine Ox (R:=Rq) ((nL _ _).add 0 _ Ro) 99 [(0,ym)] [(0,sBy)] (λ((x:BX),_)=>lkT x) ?_ Tryz.func60;rintro⟨(x:BX),_⟩ r _ ⟨⟨h1,h2,h3⟩,hr⟩;obtain rfl:Kb (aE (fA x).1) (fA x).2=r:=hr;refine⟨⟨by omega,rfl,by omega⟩,⟨by omega,by omega,by rw[aak],rfl,by rw[aak];exact h2,by rw[adW];exact aae _,λv hv=>h3 v (List.mem_reverse.1 hv)⟩,?_⟩;unfold fA;by_cases e:x.go.2.no=0
 ·rw[if_pos e];refine aH (by rw[e];rfl) ?_;rw[aag];cases x.go.1.2.2.contains false
  ·exact aP rfl rfl
  ·exact aH rfl rfl
 ·rw[if_neg e];exact aP (beq_false_of_ne e) rfl
theorem Ut (prec:List ByteArray) (line:Int):∀(l:List ByteArray) (u:List Bool) (a:List Int),cM prec line l u a=if(o0 prec line l u a).2.no=0 then .ok (o0 prec line l u a).1 else .error (o0 prec line l u a).2
 | [],_,_=>rfl
 | s::l,u,a=>by
  unfold cM o0;split
  ·rfl
  split
  ·rfl
  ·exact Ut prec line l _ _
theorem UA (cont:List ae) (line:Int):∀(l:List ByteArray) (a:List Int),dl cont line l a=if(yM cont line l a).2.no=0 then .ok (yM cont line l a).1 else .error (yM cont line l a).2
 | [],_=>rfl
 | s::l,a=>by
  unfold dl yM;split
  ·rfl
  ·exact UA cont line l _
theorem Uw (prec:List ByteArray) (cont:List ae):∀(vs:List aF) (r:List ByteArray) (u:List Bool) (d:List ai),vs.length=r.length-> dN prec cont vs (r.map λn=>⟨n,[],[]⟩) u d=if(ol prec cont vs d r u).2.no=0 then(if(ol prec cont vs d r u).1.2.2.contains false then .error ⟨6,0⟩ else .ok (ol prec cont vs d r u).1.1) else .error (ol prec cont vs d r u).2
 | [],[],_,_,_=>rfl
 | v::vs,s::r,u,d,h=>by
  rw[abH];unfold dN ol;rw[Ut,UA];by_cases e1:(o0 prec (v.l af) (v.s af) u []).2.no=0
  ·simp only[if_pos e1];by_cases e2:(yM cont (v.l ax) (v.s ax) []).2.no=0
   ·simp only[if_pos e2];exact Uw prec cont vs r _ _ (by simpa using h)
   ·simp only[if_neg e2]
  ·simp only[if_neg e1]
 | [],_::_,_,_,h=>by cases h
 | _::_,[],_,_,h=>by cases h
theorem Rz (x:BX) (h:ua x):nM x.d=if(fA x).1.no=0 then .ok (fA x).2.z.2.1 else .error (fA x).1:=by
 have e:nM x.d=_:=Uw x.prec x.cont.reverse x.vals.reverse x.styn.reverse (List.replicate x.prec.length false) [] (by rw[aak,aak];exact h.2.1.symm);have hg:x.go=ol x.prec x.cont.reverse x.vals.reverse [] x.styn.reverse (List.replicate x.prec.length false):=by
  unfold BX.go;rw[List.reverse_replicate,aae];rfl
 rw[e,<-hg];unfold fA;by_cases e1:x.go.2.no=0
 ·simp only[if_pos e1];cases x.go.1.2.2.contains false<;>rfl
 ·simp only[if_neg e1]
noncomputable def yI:BX->dH×BZ:=shut fA
theorem Rp (x:BX):yI x=fA x:=congrFun (kY fA) x
theorem MG:fk Tryz.prog 60 [0] [(0,ym)] [(0,sBy)] λ((x:BX),_)=>.nd (ua x) (.lf (Kb (aE (yI x).1) (yI x).2)):=by
 unfold yI;rw[kY];exact ME
def eZ:List av->BX->dH×BX
 | [],b=>(⟨0,0⟩,b)
 | x::l,b=>if(fa x b).1.no≠0 then fa x b else eZ l (fa x b).2
theorem xR:∀(l:List av) (x:BX),ck l x.d=((eZ l x).1,(eZ l x).2.d)
 | [],_=>rfl
 | b::l,x=>by
  unfold ck eZ;rw[OX];split
  ·rfl
  ·exact xR l _
noncomputable def bsS:List av->BX->dH×BX:=shut eZ
theorem E1 (l:List av) (x:BX):bsS l x=eZ l x:=congrFun (congrFun (kY eZ) l) x
noncomputable def CV9:gb Tryz.prog:=ci Qi [⟨_,_,_,wL⟩,⟨_,_,_,Ee⟩] [⟨_,_,_,_,_,Tq⟩,⟨_,_,_,_,_,MG⟩]
noncomputable abbrev cmF:=Tryz.f23
abbrev csE:List CS:=[.d .str,.d tI,.d tI,.d tI,.d (.list .str),.d (.list (.st 3)),.d (.list (.st 4)),.d tI,.d tI,.d .bool,.d (.list .limb),.d (.list .limb),.d tI,.d .str]
abbrev sEl:SS:=.box 30 csE
noncomputable abbrev YU:Rg Tryz.prog cmF.ntmps:=yT (vE CV9 cmF) [(20,adl 0 6)] [(3,adj 4 14 9)]
abbrev m0L:List (Nat×SS):=[(4,ym),(2,sEl),(3,Kg),(24,sD (.list (.st 1))),(25,sI),(26,sI)]
abbrev Ri:List (Nat×SS):=[(4,ym),(2,sEl),(3,Kg)]
abbrev m1L:List (Nat×SS):=[(4,ym),(2,sEl),(3,Kg),(39,sL),(40,sI),(41,sI)]
abbrev Pz:=dZ csE
def tV:AV:=.val (.slice none 0 0)
def zC:List AV:=[.val (.string ⟨#[]⟩),.val (.int .i64 0),.val (.int .i64 0),.val (.int .i64 0),tV,tV,tV,.val (.int .i64 0),.val (.int .i64 0),.val (.bool false),tV,tV,.val (.int .i64 0),.val (.string ⟨#[]⟩)]
def erX (f:dH):XV:=.tup [(true,zC),(true,[.sym (.int .i64 f.no),.sym (.int .i64 f.line)])]
def erM:XV:=.tup [(true,zC),(true,[.val (.int .i64 6),.val (.int .i64 0)])]
def Va:av:=⟨⟨#[]⟩,⟨#[]⟩,[],0⟩
def Us (e:Pz) (y:nG) (x:BX):LE m0L Ri []:=.out (x,e,y,())
def m0T (x:BX) (e:Pz) (y:nG) (l:List av) (a i:Int):T (LE m0L Ri []):=.br (decide (i<a)) (.nd (0<=i/\i<l.length) (.nd (gv (l.getD i.toNat Va)/\x.ok 999999999997) (.br (!((fa (l.getD i.toNat Va) x).1.no==0)) (.lf (.ret (erX (fa (l.getD i.toNat Va) x).1) ())) (.nd (bX (i+1)) (.lf (.back ((fa (l.getD i.toNat Va) x).2,e,y,l,a,i+1,()))))))) (.lf (Us e y x))
def m0R (e:Pz) (y:nG) (q:dH×BX):T (LE m0L Ri []):=.br (!(q.1.no==0)) (.lf (.ret (erX q.1) ())) (.lf (Us e y q.2))
theorem OM:eD YU 0 0 m0L Ri [] λ((x:BX),(e:Pz),(y:nG),(l:List av),(a:Int),(i:Int),_)=>.nd (0<=i/\i<=l.length/\a=l.length/\l.length<=68719476736/\(∀b∈l,gv b)/\x.ok (2*i.toNat)) (m0R e y (bsS (l.drop i.toNat) x)):=by
 refine eI _ (nL _ _) 99 0 0 m0L Ri [] (λ((x:BX),(e:Pz),(y:nG),(l:List av),(a:Int),(i:Int),_)=>m0T x e y l a i) (λ(_,_,_,(l:List av),_,(i:Int),_)=>l.length-i.toNat) ?_;rintro⟨(x:BX),(e:Pz),(y:nG),(l:List av),(a:Int),(i:Int),_⟩ r _ ⟨⟨h0,h1,rfl,h3,h4,h5⟩,hr⟩;obtain⟨k,rfl⟩:∃k:Nat,i=k:=⟨i.toNat,by omega⟩;rw[aae] at hr h5;rw[E1] at hr;show∃q,(m0T x e y l l.length k).hit q/\_;unfold m0T;by_cases hk:k<l.length
 ·rw[getD_drop Va hk,eZ] at hr;rw[aae];have hn:(0:Int)<=k/\(k:Int)<l.length:=⟨by omega,by omega⟩;have hb:gv (l.getD k Va):=h4 _ (by rw[aac,aaa hk];exact aaG _);have hx:x.ok 999999999997:=⟨by have:=h5.c;omega,by have:=h5.s;omega,by have:=h5.v;omega,by have:=h5.m;omega,λk r e=>by have:=h5.r k r e;omega⟩;by_cases e1:(fa (l.getD k Va) x).1.no=0
  ·rw[if_neg (by simpa using e1)] at hr;refine⟨_,aH (decide_eq_true hn.2) ⟨hn,⟨hb,hx⟩,aP (by rw[e1];rfl) ⟨⟨by omega,by omega⟩,rfl⟩⟩,by show l.length-(k+1)<l.length-k;omega,⟨by omega,by omega,rfl,h3,h4,?_⟩,?_⟩
   ·have:=J1 (b:=l.getD k Va) h5;show BX.ok _ (2*((k:Int)+1).toNat);rw[show 2*((k:Int)+1).toNat=2*k+2 by omega];exact this
   ·show(m0R e y (bsS (l.drop (k+1)) _)).hit r;rw[E1];exact hr
  ·rw[if_pos e1] at hr;obtain rfl:=hr.1 (by rw[beq_false_of_ne e1];rfl);exact⟨_,aH (decide_eq_true hn.2) ⟨hn,⟨hb,hx⟩,aH (by rw[beq_false_of_ne e1];rfl) rfl⟩,rfl⟩
 ·rw[aaq (by omega),eZ] at hr;obtain rfl:=hr.2 rfl;exact⟨_,aP (decide_eq_false (by omega)) rfl,rfl⟩
def Ur (e:Pz) (y:nG) (x:BX):LE m1L Ri []:=.out (x,e,y,())
def m1T (x:BX) (e:Pz) (y:nG) (l:List ByteArray) (a i:Int):T (LE m1L Ri []):=.br (decide (i<a)) (.nd (0<=i/\i<l.length) (.nd (Kt.ok .s (l.getD i.toNat ⟨#[]⟩)) (.br ((((x.names.2 (l.getD i.toNat ⟨#[]⟩)).getD []).reverse.length:Int)==0) (.lf (.ret erM ())) (.nd (bX (i+1)) (.lf (.back (x,e,y,l,a,i+1,()))))))) (.lf (Ur e y x))
def D6 (x:BX) (k:ByteArray):Bool:=decide (x.d.of k=[])
theorem Mc (x:BX) (k:ByteArray):((((x.names.2 k).getD []).reverse.length:Int)==0)=D6 x k:=by
 have e:x.d.of k=((x.names.2 k).getD []).reverse:=by
  show((x.names.2 k).map List.reverse).getD []=_;cases x.names.2 k<;>rfl
 unfold D6;rw[e];cases ((x.names.2 k).getD []).reverse with
 | nil=>rfl
 | cons a l=>simp;omega
theorem OL:eD YU 1 2 m1L Ri [] λ((x:BX),(e:Pz),(y:nG),(l:List ByteArray),(a:Int),(i:Int),_)=>.nd (0<=i/\i<=l.length/\a=l.length/\∀s∈l,Kt.ok .s s) (.br ((l.drop i.toNat).any (D6 x)) (.lf (.ret erM ())) (.lf (Ur e y x))):=by
 refine eI _ (nL _ _) 99 1 2 m1L Ri [] (λ((x:BX),(e:Pz),(y:nG),(l:List ByteArray),(a:Int),(i:Int),_)=>m1T x e y l a i) (λ(_,_,_,(l:List ByteArray),_,(i:Int),_)=>l.length-i.toNat) ?_;rintro⟨(x:BX),(e:Pz),(y:nG),(l:List ByteArray),(a:Int),(i:Int),_⟩ r pZ ⟨⟨h0,h1,rfl,h4⟩,hr⟩;have hl:l.length<=9223372036854775807:=pZ.2.2.2.1;obtain⟨k,rfl⟩:∃k:Nat,i=k:=⟨i.toNat,by omega⟩;rw[aae] at hr;show∃q,(m1T x e y l l.length k).hit q/\_;unfold m1T;by_cases hk:k<l.length
 ·rw[getD_drop (⟨#[]⟩:ByteArray) hk,adh] at hr;rw[aae,Mc];have hn:(0:Int)<=k/\(k:Int)<l.length:=⟨by omega,by omega⟩;have hb:Kt.ok .s (l.getD k ⟨#[]⟩):=h4 _ (by rw[aac,aaa hk];exact aaG _);cases e1:D6 x (l.getD k ⟨#[]⟩)
  ·rw[e1,ada] at hr;exact⟨_,aH (decide_eq_true hn.2) ⟨hn,hb,aP rfl ⟨⟨by omega,by omega⟩,rfl⟩⟩,by show l.length-(k+1)<l.length-k;omega,⟨by omega,by omega,rfl,h4⟩,hr⟩
  ·rw[e1,Bool.true_or] at hr;obtain rfl:=hr.1 rfl;exact⟨_,aH (decide_eq_true hn.2) ⟨hn,hb,aH rfl rfl⟩,rfl⟩
 ·rw[aaq (by omega)] at hr;obtain rfl:=hr.2 rfl;exact⟨_,aP (decide_eq_false (by omega)) rfl,rfl⟩
def zS:List AV:=[.sym (.string ⟨#[]⟩),.sym (.int .i64 0),.sym (.int .i64 0),.sym (.int .i64 0),tV,tV,tV,.sym (.int .i64 0),.sym (.int .i64 0),.sym (.bool false),tV,tV,.sym (.int .i64 0),.sym (.string ⟨#[]⟩)]
def P5 (f:dH):XV:=.tup [(true,zS),(true,[.sym (.int .i64 f.no),.sym (.int .i64 f.line)])]
def okX (x:BZ):XV:=.tup [(true,[.sym (.string x.1),.sym (.int .i64 x.2.1),.sym (.int .i64 x.2.2.1),.sym (.int .i64 x.2.2.2.1),.list .str x.2.2.2.2.1 false,.list (.st 3) x.cont.reverse !x.cont.isEmpty,.list (.st 4) x.z.2.1.reverse.reverse !x.z.2.1.reverse.isEmpty,.sym (.int .i64 x.2.2.2.2.2.2.2.1),.sym (.int .i64 x.2.2.2.2.2.2.2.2.1),.sym (.bool x.2.2.2.2.2.2.2.2.2.1),.list .limb x.2.2.2.2.2.2.2.2.2.2.1 false,.list .limb x.2.2.2.2.2.2.2.2.2.2.2.1 false,.sym (.int .i64 x.2.2.2.2.2.2.2.2.2.2.2.2.1),.sym (.string x.2.2.2.2.2.2.2.2.2.2.2.2.2.1)]),(true,[.sym (.int .i64 0),.sym (.int .i64 0)])]
def BX.z0 (t:ByteArray):BX:=(t,(0:Int),(0:Int),(0:Int),[],[],[],(0:Int),(0:Int),false,[],[],(0:Int),⟨#[]⟩,(0,λ_=>none),[],())
noncomputable def cmL (x:BX):T XV:=.nd (ua x) (.br (!((yI x).1.no==0)) (.lf (P5 (yI x).1)) (.nd ((yI x).2.z.1=(yI x).2.z.2.1.length) (.lf (okX (yI x).2))))
noncomputable def cmK (x:BX):T XV:=.nd ((0:Int)<=0/\(0:Int)<=dU.length/\(dU.length:Int)=dU.length/\∀s∈dU,Kt.ok .s s) (.br ((dU.drop (Int.toNat 0)).any (D6 x)) (.lf (P5 ⟨6,0⟩)) (cmL x))
noncomputable def cmB (q:dH×BX):T XV:=.br (!(q.1.no==0)) (.lf (P5 q.1)) (cmK q.2)
noncomputable def cmT (s:bP):T XV:=.nd (cZ s.title) (.br (!cU s.title 0 60) (.lf (P5 ⟨8,0⟩)) (.nd (∀_:ByteArray,(none:Option (List ByteArray))=none) (.nd ((0:Int)<=0/\(0:Int)<=s.blocks.length/\(s.blocks.length:Int)=s.blocks.length/\s.blocks.length<=68719476736/\(∀b∈s.blocks,gv b)/\(BX.z0 s.title).ok (2*Int.toNat 0)) (cmB (bsS (s.blocks.drop (Int.toNat 0)) (BX.z0 s.title))))))
theorem JU:au Tryz.prog 23 true (aD [(0,.st 2)] λ((s:bP),_)=>cmT s):=
 sk (R:=YU) (((nL _ _).add 0 _ OM).add 1 _ OL) true 99 [(0,.st 2)] (λ((s:bP),_)=>cmT s) (λx r _ h=>⟨h,.inl rfl⟩) Tryz.func23
def xG (x:aa×dH):XV:=.tup [(true,jV (.st 5) x.1),(true,[.sym (.int .i64 x.2.no),.sym (.int .i64 x.2.line)])]
def VX.lOk (x:VX):Prop:=∀t l,x.L.2 t=some l->l.length<=274877906944
theorem VX.lOk_eq {x y:VX} (h:x.lOk) (e:y.2.1=x.2.1):y.lOk:=λt l hl=>h t l (by have:y.L=x.L:=e;rw[this] at hl;exact hl)
theorem QJ {k:ByteArray} {f:ao} {x:VX} (h:x.lOk) (hf:f.vals.length<=274877906944):(eH k f x).2.lOk:=by
 have hl:(x.setL f.key f.line).lOk:=VX.lOk_eq h rfl;unfold eH;split
 ·exact h
 split
 ·exact h
 split
 ·intro t l hl;have hl:setF x.L.2 f.key f.vals t=some l:=(congrFun (IJ x.L.2 f.key f.vals) t).symm.trans hl;unfold setF at hl;split at hl
  ·obtain rfl:=aad hl;exact hf
  ·exact h t l hl
 split
 ·exact hl
 ·exact VX.lOk_eq hl (L3 _ _ _).2.1
theorem AE {kind:ByteArray}:∀{l:List ao} {v:VX},v.lOk->(∀f∈l,f.vals.length<=274877906944)->(gd kind l v).2.lOk
 | [],_,h,_=>h
 | f::l,v,h,hf=>by
  have h1:=QJ (k:=kind) h (hf f aah);unfold gd;split
  ·exact h1
  ·exact AE h1 λg hg=>hf g (aap _ hg)
theorem VX.s_len {x:VX} (h:x.lOk) (k:ByteArray):(x.v.s k).length<=274877906944:=by
 show((x.L.2 k).getD []).length<=_;cases e:x.L.2 k with
 | none=>exact aaS _
 | some l=>exact h k l e
def BX.li (x:BX):Prop:=x.prec.length<=274877906944/\x.styn.length=x.vals.length/\∀v∈x.vals,vOk v
theorem If {k nm:ByteArray} {v:VX} {x:BX} (h:x.li) (hv:v.lOk):(js k nm v.v x).li:=by
 obtain⟨h1,h2,h3⟩:=h;unfold js;split
 ·exact⟨h1,h2,h3⟩
 split
 ·exact⟨h1,h2,h3⟩
 split
 ·exact⟨v.s_len hv ed,h2,h3⟩
 split
 ·exact⟨h1,h2,h3⟩
 split
 ·refine⟨h1,congrArg (·+1) h2,λu hu=>?_⟩;rcases aas.1 (show u∈v.v::x.vals from hu) with rfl|hu
  ·exact⟨aao (v.s_len hv _) (by decide),aao (v.s_len hv _) (by decide)⟩
  ·exact h3 u hu
 split
 ·exact⟨h1,h2,h3⟩
 split
 ·exact⟨h1,h2,h3⟩
 ·exact⟨h1,h2,h3⟩
theorem J2 {b:av} {x:BX} (h:x.li) (hb:gv b):(fa b x).2.li:=by
 have hn:(x.nam b.kind b.name).li:=h;unfold fa;split
 ·exact h
 split
 ·exact hn
 split
 ·exact hn
 ·exact If hn (AE (λt l e=>by cases e) λf hf=>(hb.2.2.2 f hf).2)
theorem u7:∀{l:List av} {x:BX},x.li->(∀b∈l,gv b)->(eZ l x).2.li
 | [],_,h,_=>h
 | b::l,x,h,hb=>by
  have h1:=J2 h (hb b aah);unfold eZ;split
  ·exact h1
  ·exact u7 h1 λc hc=>hb c (aap _ hc)
theorem AZ {prec:List ByteArray} {cont:List ae}:∀{vs:List aF} {d:List ai} {r:List ByteArray} {u:List Bool},(ol prec cont vs d r u).2.no=0->(ol prec cont vs d r u).1.1.length=d.length+vs.length
 | [],_,_,_,_=>rfl
 | v::vs,d,r,u,h=>by
  unfold ol at h ⊢;by_cases e1:(o0 prec (v.l af) (v.s af) u []).2.no=0
  ·rw[if_pos e1] at h ⊢;by_cases e2:(yM cont (v.l ax) (v.s ax) []).2.no=0
   ·rw[if_pos e2] at h ⊢;rw[AZ h,aaj,aar,aar,aa1];omega
   ·rw[if_neg e2] at h;exact absurd h e2
  ·rw[if_neg e1] at h;exact absurd h e1
theorem zi {w:World} {S:Nat->Prop} {v:Value} (f:dH) (h:XR [] w S (P5 f) v):XR [] w S (xG (aa.zero,f)) v:=by
 have hn:∀{t:Ty} {u:Value},VR [] w S tV u->VR [] w S (.list t [] false) u:=λh=>⟨none,0,0,h.1,RS.nil _ _,λe=>by cases e⟩;obtain⟨vs,e,h⟩:=h;refine⟨vs,e,?_⟩;cases h with
 | cons h1 h2=>
  refine .cons ?_ h2;obtain⟨us,e,h⟩:=h1;refine⟨us,e,?_⟩
  match us,h with
  | _,.cons a1 (.cons a2 (.cons a3 (.cons a4 (.cons a5 (.cons a6 (.cons a7 (.cons a8 (.cons a9 (.cons Zi (.cons Zh (.cons Zg (.cons a13 (.cons a14 .nil)))))))))))))=>
   exact .cons a1 (.cons a2 (.cons a3 (.cons a4 (.cons (hn a5) (.cons (hn a6) (.cons (hn a7) (.cons a8 (.cons a9 (.cons Zi (.cons (hn Zh) (.cons (hn Zg) (.cons a13 (.cons a14 .nil)))))))))))))
theorem Wn (x:BX):KJ (okX (fA x).2)=xG ({ x.d.e with styl:=(fA x).2.z.2.1 },⟨0,0⟩):=
 congrArg (λl=>xG ({ x.d.e with styl:=l },⟨0,0⟩)) (aag (fA x).2.z.2.1)
theorem JV:au Tryz.prog 23 true (aD [(0,.st 2)] λ((s:bP),_)=>.nd (CC s) (.lf (xG (bY s)))):=by
 refine JU.imp ?_;rintro⟨(s:bP),_⟩ r ⟨⟨h1,h2,h3⟩,hr⟩;obtain rfl:xG (bY s)=r:=hr;have hz:(BX.z0 s.title).li:=⟨aaS _,rfl,λv hv=>by cases hv⟩;have pZ:ck s.blocks (cm.start s.title)=((eZ s.blocks (BX.z0 s.title)).1,(eZ s.blocks (BX.z0 s.title)).2.d):=xR s.blocks (BX.z0 s.title);have Si:=u7 hz h3;have pre:∀{q},(cmB (eZ s.blocks (BX.z0 s.title))).hit q->cU s.title 0 60=true->(cmT s).hit q:=λhq hp=>⟨h1,aP (by rw[hp];rfl) ⟨λ_=>rfl,⟨by omega,by omega,rfl,h2,h3,⟨aaS _,aaS _,aaS _,aaS _,λk r e=>by cases e⟩⟩,by rw[E1];exact hq⟩⟩;unfold bY;rw[pZ];cases hp:cU s.title 0 60 with
 | false=>rw[if_pos rfl];exact⟨P5 ⟨8,0⟩,⟨h1,aH (by rw[hp];rfl) rfl⟩,λw S v h=>zi _ h⟩
 | true=>
  rw[if_neg (by decide)];obtain⟨⟨f,x⟩,hq⟩:∃q,eZ s.blocks (BX.z0 s.title)=q:=⟨_,rfl⟩;rw[hq] at Si pre ⊢;have Si:x.li:=Si;by_cases e1:f.no=0
  ·rw[if_neg (by simpa using e1)];have abn:∀{q},(cmK x).hit q->(cmT s).hit q:=λh=>pre (aP (by show(!(f.no==0))=false;rw[e1];rfl) h) hp;have kk:∀s∈dU,Kt.ok .s s:=λs hs=>oJ ((by decide:∀s∈dU,s.size<=1000) s hs);cases e2:dU.any (D6 x) with
   | true=>
    rw[if_pos (by exact e2)];exact⟨P5 ⟨6,0⟩,abn ⟨⟨by decide,by decide,rfl,kk⟩,aH e2 rfl⟩,λw S v h=>zi _ h⟩
   | false=>
    rw[if_neg (by intro h;have h:dU.any (D6 x)=true:=h;rw[e2] at h;cases h)];have lp:ua x:=⟨aao Si.1 (by decide),Si.2.1,Si.2.2⟩;have hlk:nM x.d=_:=Rz x lp;have tJ:∀{q},(T.br (!((fA x).1.no==0)) (.lf (P5 (fA x).1)) (.nd ((fA x).2.z.1=(fA x).2.z.2.1.length) (.lf (okX (fA x).2)))).hit q->(cmT s).hit q:=λh=>abn ⟨⟨by decide,by decide,rfl,kk⟩,aP e2 ⟨lp,by rw[Rp];exact h⟩⟩;show∃q,_/\∀(w:World) (S:Nat->Prop) (v:Value),_->XR [] w S (xG (match nM x.d with|.error e=>(aa.zero,e)|.ok l=>({ x.d.e with styl:=l },⟨0,0⟩))) v;rw[hlk];by_cases e3:(fA x).1.no=0
    ·rw[if_pos e3];have hg:x.go.2.no=0:=by
      unfold fA at e3;by_cases e:x.go.2.no=0
      ·exact e
      ·rw[if_neg e] at e3;exact e3
     refine⟨okX (fA x).2,tJ (aP (by rw[e3];rfl) ⟨?_,rfl⟩),λw S v h=>by rw[<-Wn];exact Dh h⟩;have:=AZ hg;show x.styn.length=x.go.1.1.length;rw[show x.go.1.1.length=_ from this];show _=0+(x.vals.reverse).length;rw[aak,aa6];exact Si.2.1
    ·rw[if_neg e3];exact⟨P5 (fA x).1,tJ (aH (by rw[beq_false_of_ne e3];rfl) rfl),λw S v h=>zi _ h⟩
  ·rw[if_pos e1];exact⟨P5 f,pre (aH (by show(!(f.no==0))=true;rw[beq_false_of_ne e1];rfl) rfl) hp,λw S v h=>zi _ h⟩
end Go.Proofs.YtdbpbfglhbiadaaGreatDoor
