/- Tm13 Tm14 Tm15 -/
import Derived.Test.YtdbpbfglhbiadaaGreatDoorH00
import Derived.Test.YtdbpbfglhbiadaaGreatDoorH37
set_option maxHeartbeats 4000000
set_option maxRecDepth 100000
namespace Go.Proofs.YtdbpbfglhbiadaaGreatDoor
open Go Go.RowKit
noncomputable def WP (t:TypeId):Option Ty:=List.lookup t [(9,.str),(3,tI),(4,.bool)]
noncomputable def C8:eP Tryz.prog:=bA WP [⟨_,_,_,find_ok⟩] [⟨_,_,_,_,_,jN⟩]
noncomputable abbrev lfn:=Tryz.f65
abbrev stZ:List CS:=[.d .str,.d tI,.d tI,.d tI,.d (.list .str),.own (.st 3) 87,.zc (.st 4) (.st 10) 42,.d tI,.d tI,.d .bool,.d (.list .limb),.d (.list .limb),.d tI,.d .str,.own .str 9,.own (.st 7) 189,.own (.st 6) 188,.d tI,.d tI]
abbrev stO:List CS:=[.d .str,.d tI,.d tI,.d tI,.d (.list .str),.own (.st 3) 87,.zip (.st 4) (.st 10) 42 [.d .str,.own tI 3,.own tI 3],.d tI,.d tI,.d .bool,.d (.list .limb),.d (.list .limb),.d tI,.d .str,.own .str 9,.own (.st 7) 189,.own (.st 6) 188,.d tI,.d tI]
abbrev sZ:SS:=.box 118 stZ
abbrev sO:SS:=.box 118 stO
abbrev gU:=eB stZ
abbrev ju:=eB stO
abbrev sOB:SS:=.c (.own .bool 4)
noncomputable abbrev KU:Rg Tryz.prog lfn.ntmps:=o8 (EK C8 lfn [0]) [(8,m5 0 6)] [(6,Qk 0 6 (.st 4) (.st 10)),(9,XC 0 6),(14,m5 0 6),(16,m5 0 6),(25,m5 0 6)]
abbrev ZcC:=Nat×List aj×List ByteArray
abbrev ZoC:=Nat×List aj×(ByteArray×List Int×List Int×Unit)×List ByteArray
def ju.z (x:ju):ZoC:=x.2.2.2.2.2.2.1
def ju.setZ (x:ju) (z:ZoC):ju:=(x.1,x.2.1,x.2.2.1,x.2.2.2.1,x.2.2.2.2.1,x.2.2.2.2.2.1,z,x.2.2.2.2.2.2.2.1,x.2.2.2.2.2.2.2.2.1,x.2.2.2.2.2.2.2.2.2.1,x.2.2.2.2.2.2.2.2.2.2.1,x.2.2.2.2.2.2.2.2.2.2.2.1,x.2.2.2.2.2.2.2.2.2.2.2.2.1,x.2.2.2.2.2.2.2.2.2.2.2.2.2.1,x.2.2.2.2.2.2.2.2.2.2.2.2.2.2.1,x.2.2.2.2.2.2.2.2.2.2.2.2.2.2.2.1,x.2.2.2.2.2.2.2.2.2.2.2.2.2.2.2.2.1,x.2.2.2.2.2.2.2.2.2.2.2.2.2.2.2.2.2.1,x.2.2.2.2.2.2.2.2.2.2.2.2.2.2.2.2.2.2.1,())
def ju.prec (x:ju):List ByteArray:=x.2.2.2.2.1
def ju.rl (x:ju):List (Int×Int):=x.2.2.2.2.2.2.2.2.2.2.2.2.2.2.2.1
def ju.ln (x:ju) (i:Int):Int×Int:=x.rl.reverse.getD i.toNat (0,0)
def ju.done (x:ju):List aj:=x.z.2.1
def ju.ps (x:ju):List Int:=x.z.2.2.1.2.1
def ju.cs (x:ju):List Int:=x.z.2.2.1.2.2.1
def ju.nm (x:ju):ByteArray:=x.z.2.2.1.1
def ju.withP (x:ju) (ps cs:List Int):ju:=x.setZ (x.z.1,x.z.2.1,(x.z.2.2.1.1,ps,cs,()),x.z.2.2.2)
def gU.z (x:gU):ZcC:=x.2.2.2.2.2.2.1
def gU.setZ (x:gU) (z:ZcC):gU:=(x.1,x.2.1,x.2.2.1,x.2.2.2.1,x.2.2.2.2.1,x.2.2.2.2.2.1,z,x.2.2.2.2.2.2.2.1,x.2.2.2.2.2.2.2.2.1,x.2.2.2.2.2.2.2.2.2.1,x.2.2.2.2.2.2.2.2.2.2.1,x.2.2.2.2.2.2.2.2.2.2.2.1,x.2.2.2.2.2.2.2.2.2.2.2.2.1,x.2.2.2.2.2.2.2.2.2.2.2.2.2.1,x.2.2.2.2.2.2.2.2.2.2.2.2.2.2.1,x.2.2.2.2.2.2.2.2.2.2.2.2.2.2.2.1,x.2.2.2.2.2.2.2.2.2.2.2.2.2.2.2.2.1,x.2.2.2.2.2.2.2.2.2.2.2.2.2.2.2.2.2.1,x.2.2.2.2.2.2.2.2.2.2.2.2.2.2.2.2.2.2.1,())
def gU.setF (x:gU) (p:Int×Int):gU:=(x.1,x.2.1,x.2.2.1,x.2.2.2.1,x.2.2.2.2.1,x.2.2.2.2.2.1,x.2.2.2.2.2.2.1,x.2.2.2.2.2.2.2.1,x.2.2.2.2.2.2.2.2.1,x.2.2.2.2.2.2.2.2.2.1,x.2.2.2.2.2.2.2.2.2.2.1,x.2.2.2.2.2.2.2.2.2.2.2.1,x.2.2.2.2.2.2.2.2.2.2.2.2.1,x.2.2.2.2.2.2.2.2.2.2.2.2.2.1,x.2.2.2.2.2.2.2.2.2.2.2.2.2.2.1,x.2.2.2.2.2.2.2.2.2.2.2.2.2.2.2.1,x.2.2.2.2.2.2.2.2.2.2.2.2.2.2.2.2.1,p.1,p.2,())
def gU.f (x:gU):Int×Int:=(x.2.2.2.2.2.2.2.2.2.2.2.2.2.2.2.2.2.1,x.2.2.2.2.2.2.2.2.2.2.2.2.2.2.2.2.2.2.1)
def gU.note (x:gU) (no line:Int):gU:=x.setF (nt x.f no line)
def ju.cl (x:ju):gU:=(x.1,x.2.1,x.2.2.1,x.2.2.2.1,x.2.2.2.2.1,x.2.2.2.2.2.1,(x.z.1,x.z.2.1++[⟨x.nm,x.ps.reverse,x.cs.reverse⟩],x.z.2.2.2),x.2.2.2.2.2.2.2.1,x.2.2.2.2.2.2.2.2.1,x.2.2.2.2.2.2.2.2.2.1,x.2.2.2.2.2.2.2.2.2.2.1,x.2.2.2.2.2.2.2.2.2.2.2.1,x.2.2.2.2.2.2.2.2.2.2.2.2.1,x.2.2.2.2.2.2.2.2.2.2.2.2.2.1,x.2.2.2.2.2.2.2.2.2.2.2.2.2.2.1,x.2.2.2.2.2.2.2.2.2.2.2.2.2.2.2.1,x.2.2.2.2.2.2.2.2.2.2.2.2.2.2.2.2.1,x.2.2.2.2.2.2.2.2.2.2.2.2.2.2.2.2.2.1,x.2.2.2.2.2.2.2.2.2.2.2.2.2.2.2.2.2.2.1,())
def gU.op (x:gU):ju:=(x.1,x.2.1,x.2.2.1,x.2.2.2.1,x.2.2.2.2.1,x.2.2.2.2.2.1,(x.z.1,x.z.2.1,(x.z.2.2.getD 0 ⟨#[]⟩,[],[],()),x.z.2.2.drop 1),x.2.2.2.2.2.2.2.1,x.2.2.2.2.2.2.2.2.1,x.2.2.2.2.2.2.2.2.2.1,x.2.2.2.2.2.2.2.2.2.2.1,x.2.2.2.2.2.2.2.2.2.2.2.1,x.2.2.2.2.2.2.2.2.2.2.2.2.1,x.2.2.2.2.2.2.2.2.2.2.2.2.2.1,x.2.2.2.2.2.2.2.2.2.2.2.2.2.2.1,x.2.2.2.2.2.2.2.2.2.2.2.2.2.2.2.1,x.2.2.2.2.2.2.2.2.2.2.2.2.2.2.2.2.1,x.2.2.2.2.2.2.2.2.2.2.2.2.2.2.2.2.2.1,x.2.2.2.2.2.2.2.2.2.2.2.2.2.2.2.2.2.2.1,())
def aW.zb (x:aW):gU:=(x.1,x.2.1,x.2.2.1,x.2.2.2.1,x.2.2.2.2.1,x.2.2.2.2.2.1,(x.rs.length,[],x.rs.reverse),x.2.2.2.2.2.2.2.1,x.2.2.2.2.2.2.2.2.1,x.2.2.2.2.2.2.2.2.2.1,x.2.2.2.2.2.2.2.2.2.2.1,x.2.2.2.2.2.2.2.2.2.2.2.1,x.2.2.2.2.2.2.2.2.2.2.2.2.1,x.2.2.2.2.2.2.2.2.2.2.2.2.2.1,x.2.2.2.2.2.2.2.2.2.2.2.2.2.2.1,x.2.2.2.2.2.2.2.2.2.2.2.2.2.2.2.1,x.2.2.2.2.2.2.2.2.2.2.2.2.2.2.2.2.1,x.2.2.2.2.2.2.2.2.2.2.2.2.2.2.2.2.2.1,x.2.2.2.2.2.2.2.2.2.2.2.2.2.2.2.2.2.2.1,())
section
variable (sl:List (Nat×SS)) {L:Type} (back:ju->List Bool->L) (out:ju->L) (ret:gU->L) (x:ju) (us:List Bool) (i:Int) (l:List ByteArray) (n j:Int)
def lkE (no line:Int):T L:=.nd (0<=i/\i<x.rl.length) (.nd ((0:Int)≠no) (.lf (ret (x.cl.note no line))))
def Zz:T L:=.br (decide (j<n)) (.nd (0<=j/\j<l.length) (.br (decide (Lib.idxOfS x.prec (l.getD j.toNat ⟨#[]⟩)<0)) (lkE ret x i 2 (x.ln i).1)
 (.nd (0<=Lib.idxOfS x.prec (l.getD j.toNat ⟨#[]⟩)/\Lib.idxOfS x.prec (l.getD j.toNat ⟨#[]⟩)<us.length) (.br (us.reverse.getD (Lib.idxOfS x.prec (l.getD j.toNat ⟨#[]⟩)).toNat false) (lkE ret x i 3 (x.ln i).1)
 (.nd (0<=Lib.idxOfS x.prec (l.getD j.toNat ⟨#[]⟩)/\Lib.idxOfS x.prec (l.getD j.toNat ⟨#[]⟩)<us.length) (.nd (i=x.done.length) (.nd ((x.ps.length+1)*9<=140737488355328) (.nd (i=x.done.length) (.nd (cw (j+1))
  (.lf (back (x.withP (Lib.idxOfS x.prec (l.getD j.toNat ⟨#[]⟩)::x.ps) x.cs) (us.reverse.set (Lib.idxOfS x.prec (l.getD j.toNat ⟨#[]⟩)).toNat true).reverse))))))))))) (.lf (out x))
def Zy (cn:List ByteArray):T L:=.br (decide (j<n)) (.nd (0<=j/\j<l.length) (.br (decide (Lib.idxOfS cn.reverse (l.getD j.toNat ⟨#[]⟩)<0)) (lkE ret x i 2 (x.ln i).2)
 (.nd (i=x.done.length) (.nd ((x.cs.length+1)*9<=140737488355328) (.nd (i=x.done.length) (.nd (cw (j+1)) (.lf (back (x.withP x.ps (Lib.idxOfS cn.reverse (l.getD j.toNat ⟨#[]⟩)::x.cs)) us)))))))) (.lf (out x))
end
abbrev l2L:List (Nat×SS):=[(0,sO),(2,R4),(4,sOB),(5,sI),(58,sL),(59,sI),(60,sI)]
abbrev l3L:List (Nat×SS):=[(0,sO),(2,R4),(4,sOB),(5,sI),(128,sL),(129,sI),(130,sI)]
abbrev O9:List (Nat×SS):=[(0,sO),(2,R4),(4,sOB),(5,sI)]
def ZM (cn:List ByteArray) (i:Int) (l:List ByteArray) (n j:Int) (x:ju) (us:List Bool):LE l2L O9 [(0,sZ)]:=.back (x,cn,us,i,l,n,j+1,())
def IM (cn:List ByteArray) (us:List Bool) (i:Int) (x:ju):LE l2L O9 [(0,sZ)]:=.out (x,cn,us,i,())
def CQ (x:gU):LE l2L O9 [(0,sZ)]:=.ret (.tup []) (x,())
def ZL (cn:List ByteArray) (i:Int) (l:List ByteArray) (n j:Int) (x:ju) (us:List Bool):LE l3L O9 [(0,sZ)]:=.back (x,cn,us,i,l,n,j+1,())
def O8 (cn:List ByteArray) (us:List Bool) (i:Int) (x:ju):LE l3L O9 [(0,sZ)]:=.out (x,cn,us,i,())
def O7 (x:gU):LE l3L O9 [(0,sZ)]:=.ret (.tup []) (x,())
def bS (prec:List ByteArray) (line:Int):List ByteArray->List Bool->List Int->(List Bool×List Int)×dG
 | [],u,a=>((u,a),⟨0,0⟩)
 | s::l,u,a=>if Lib.idxOfS prec s<0 then((u,a),⟨2,line⟩) else if u.getD (Lib.idxOfS prec s).toNat false=true then((u,a),⟨3,line⟩) else bS prec line l (u.set (Lib.idxOfS prec s).toNat true) (a++[Lib.idxOfS prec s])
def dO (cn:List ByteArray) (line:Int):List ByteArray->List Int->List Int×dG
 | [],a=>(a,⟨0,0⟩)
 | s::l,a=>if Lib.idxOfS cn s<0 then(a,⟨2,line⟩) else dO cn line l (a++[Lib.idxOfS cn s])
def lkF {L:Type} (out:ju->List Bool->L) (ret:gU->L) (x:ju) (u:List Bool) (ps cs:List Int) (e:dG):T L:=.br (decide (e.no=0)) (.lf (out (x.withP ps.reverse cs.reverse) u.reverse)) (.lf (ret ((x.withP ps.reverse cs.reverse).cl.note e.no e.line)))
def lkP (x:ju) (us:List Bool) (a:List Int) (i:Int) (l:List ByteArray) (n j:Int):Prop:=0<=j/\j<=l.length/\n=l.length/\i=x.done.length/\i<x.rl.length/\us.length=x.prec.length/\(a.length:Int)=j/\l.length<=1099511627776
theorem La (l:List ByteArray) (s:ByteArray):Lib.idxOfS l s<0\/(0<=Lib.idxOfS l s/\Lib.idxOfS l s<l.length):=by
 have:∀(l:List ByteArray) (i:Nat),Lib.idxFromS l s i<0\/(0<=Lib.idxFromS l s i/\Lib.idxFromS l s i<i+l.length):=by
  intro l;induction l with
  | nil=>intro i;exact .inl (by show(-1:Int)<0;omega)
  | cons x l ih=>
   intro i;unfold Lib.idxFromS;split
   ·exact .inr ⟨by omega,by rw[aaJ];omega⟩
   ·rcases ih (i+1) with h|h
    ·exact .inl h
    ·exact .inr ⟨h.1,by rw[aaJ];omega⟩
 have:=this l 0;unfold Lib.idxOfS;omega
theorem OY:cL KU 2 4 l2L O9 [(0,sZ)] λ((x:ju),(cn:List ByteArray),(us:List Bool),(i:Int),(l:List ByteArray),(n:Int),(j:Int),_)=>
 .nd (lkP x us x.ps i l n j) (lkF (λx u=>IM cn u i x) CQ x (bS x.prec (x.ln i).1 (l.drop j.toNat) us.reverse x.ps.reverse).1.1 (bS x.prec (x.ln i).1 (l.drop j.toNat) us.reverse x.ps.reverse).1.2 x.cs.reverse (bS x.prec (x.ln i).1 (l.drop j.toNat) us.reverse x.ps.reverse).2):=by
  refine fy _ (nL _ _) 99 2 4 l2L O9 [(0,sZ)] (λ((x:ju),(cn:List ByteArray),(us:List Bool),(i:Int),(l:List ByteArray),(n:Int),(j:Int),_)=>Zz (ZM cn i l n j) (IM cn us i) CQ x us i l n j)
   (λ(_,_,_,_,(l:List ByteArray),_,(j:Int),_)=>l.length-j.toNat) ?_
  rintro⟨(x:ju),(cn:List ByteArray),(us:List Bool),(i:Int),(l:List ByteArray),(n:Int),(j:Int),_⟩ r _ ⟨⟨h0,h1,rfl,rfl,h4,h5,h6,h7⟩,hr⟩;have hr:(lkF (λx u=>IM cn u _ x) CQ x _ _ _ _).hit r:=hr;obtain⟨k,rfl⟩:∃k:Nat,j=k:=⟨j.toNat,by omega⟩;rw[aae] at hr;show∃q,(Zz _ _ _ x us _ l l.length k).hit q/\_;have Pv:x.withP x.ps.reverse.reverse x.cs.reverse.reverse=x:=by rw[aat,aat];rfl
  unfold Zz;by_cases hk:k<l.length
  ·rw[getD_drop (⟨#[]⟩:ByteArray) hk,bS] at hr;rw[aae];have hE:∀no line:Int,no≠0->(lkF (λx u=>IM cn u x.done.length x) CQ x us.reverse x.ps.reverse x.cs.reverse ⟨no,line⟩).hit r->(lkE (L:=LE l2L O9 [(0,sZ)]) CQ x x.done.length no line).hit r/\(match r with|.back x'=>False|q=>q=r):=λno line hn h=>by
    have h:=h.2 (decide_eq_false hn);rw[Pv] at h;obtain rfl:=h;exact⟨⟨⟨by omega,h4⟩,acE hn,rfl⟩,rfl⟩
   split at hr
   ·rename_i hlt;obtain⟨q1,q2⟩:=hE 2 _ (by decide) hr;refine⟨r,aC (decide_eq_true (by omega)) ⟨⟨by omega,by omega⟩,aC (decide_eq_true hlt) q1⟩,?_⟩
    revert q2;cases r<;>intro q2<;>first|exact q2|exact q2.elim
   ·rename_i hge;have hx:=(La x.prec (l.getD k ⟨#[]⟩)).resolve_left hge;split at hr
    ·rename_i hu;obtain⟨q1,q2⟩:=hE 3 _ (by decide) hr;refine⟨r,aC (decide_eq_true (by omega)) ⟨⟨by omega,by omega⟩,aK (decide_eq_false hge) ⟨⟨hx.1,by omega⟩,aC hu q1⟩⟩,?_⟩
     revert q2;cases r<;>intro q2<;>first|exact q2|exact q2.elim
    ·rename_i hu;refine⟨_,aC (decide_eq_true (by omega)) ⟨⟨by omega,by omega⟩,aK (decide_eq_false hge) ⟨⟨hx.1,by omega⟩,aK (by simpa using hu) ⟨⟨hx.1,by omega⟩,rfl,by omega,rfl,⟨by omega,by omega⟩,rfl⟩⟩⟩,?_,?_⟩
     ·show l.length-(k+1)<l.length-k;omega
     ·refine⟨⟨by omega,by omega,rfl,rfl,h4,?_,?_,h7⟩,?_⟩
      ·rw[aaP,ab1,aaP];exact h5
      ·show((x.ps.length+1:Nat):Int)=(k:Int)+1;omega
      ·show(lkF _ _ _ _ _ _ _).hit r;rw[aat];have e:(Lib.idxOfS x.prec (l.getD k ⟨#[]⟩)::x.ps).reverse=x.ps.reverse++[Lib.idxOfS x.prec (l.getD k ⟨#[]⟩)]:=by simp
       rw[<-e] at hr;exact hr
  ·rw[aaQ (by omega),bS] at hr;have h:=hr.1 (decide_eq_true rfl);refine⟨r,aK (decide_eq_false (by omega)) ?_,?_⟩
   ·rw[Pv,aat] at h;exact h
   ·obtain rfl:=h;rfl
theorem OX:cL KU 3 6 l3L O9 [(0,sZ)] λ((x:ju),(cn:List ByteArray),(us:List Bool),(i:Int),(l:List ByteArray),(n:Int),(j:Int),_)=>
 .nd (lkP x us x.cs i l n j) (lkF (λx u=>O8 cn u i x) O7 x us.reverse x.ps.reverse (dO cn.reverse (x.ln i).2 (l.drop j.toNat) x.cs.reverse).1 (dO cn.reverse (x.ln i).2 (l.drop j.toNat) x.cs.reverse).2):=by
  refine fy _ (nL _ _) 99 3 6 l3L O9 [(0,sZ)] (λ((x:ju),(cn:List ByteArray),(us:List Bool),(i:Int),(l:List ByteArray),(n:Int),(j:Int),_)=>Zy (ZL cn i l n j) (O8 cn us i) O7 x us i l n j cn)
   (λ(_,_,_,_,(l:List ByteArray),_,(j:Int),_)=>l.length-j.toNat) ?_
  rintro⟨(x:ju),(cn:List ByteArray),(us:List Bool),(i:Int),(l:List ByteArray),(n:Int),(j:Int),_⟩ r _ ⟨⟨h0,h1,rfl,rfl,h4,h5,h6,h7⟩,hr⟩;have hr:(lkF (λx u=>O8 cn u _ x) O7 x _ _ _ _).hit r:=hr;obtain⟨k,rfl⟩:∃k:Nat,j=k:=⟨j.toNat,by omega⟩;rw[aae] at hr;show∃q,(Zy _ _ _ x us _ l l.length k cn).hit q/\_;have Pv:x.withP x.ps.reverse.reverse x.cs.reverse.reverse=x:=by rw[aat,aat];rfl
  unfold Zy;by_cases hk:k<l.length
  ·rw[getD_drop (⟨#[]⟩:ByteArray) hk,dO] at hr;rw[aae];split at hr
   ·rename_i hlt;have h:=hr.2 (decide_eq_false (by show¬(2:Int)=0;decide));rw[Pv] at h;obtain rfl:=h;exact⟨_,aC (decide_eq_true (by omega)) ⟨⟨by omega,by omega⟩,aC (decide_eq_true hlt) ⟨⟨by omega,h4⟩,by decide,rfl⟩⟩,rfl⟩
   ·rename_i hge;refine⟨_,aC (decide_eq_true (by omega)) ⟨⟨by omega,by omega⟩,aK (decide_eq_false hge) ⟨rfl,by omega,rfl,⟨by omega,by omega⟩,rfl⟩⟩,?_,?_⟩
    ·show l.length-(k+1)<l.length-k;omega
    ·refine⟨⟨by omega,by omega,rfl,rfl,h4,h5,?_,h7⟩,?_⟩
     ·show((x.cs.length+1:Nat):Int)=(k:Int)+1;omega
     ·have e:(Lib.idxOfS cn.reverse (l.getD k ⟨#[]⟩)::x.cs).reverse=x.cs.reverse++[Lib.idxOfS cn.reverse (l.getD k ⟨#[]⟩)]:=by simp
      rw[<-e] at hr;exact hr
  ·rw[aaQ (by omega),dO] at hr;have h:=hr.1 (decide_eq_true rfl);refine⟨r,aK (decide_eq_false (by omega)) ?_,?_⟩
   ·rw[Pv,aat] at h;exact h
   ·obtain rfl:=h;rfl
abbrev l0L:List (Nat×SS):=[(0,sT),(2,R4),(3,sI)]
abbrev l0O:List (Nat×SS):=[(0,sT),(2,R4)]
def ZN (x:aW) (cn:List ByteArray) (i:Int):LE l0L l0O [(0,sZ)]:=.back (x,cn,i,())
def Pd (x:aW) (cn:List ByteArray):LE l0L l0O [(0,sZ)]:=.out (x,cn,())
theorem O0:cL KU 0 0 l0L l0O [(0,sZ)] λ((x:aW),(cn:List ByteArray),(i:Int),_)=>.nd (0<=i/\i<=x.cont.length/\(cn.length:Int)=i/\x.cont.length<=1099511627776) (.lf (Pd x (((x.cont.drop i.toNat).map (·.name)).reverse++cn))):=by
 refine fy _ (nL _ _) 99 0 0 l0L l0O [(0,sZ)] (λ((x:aW),(cn:List ByteArray),(i:Int),_)=>.br (decide (i<x.rc.length)) (.nd (0<=i/\i<x.rc.length) (.nd ((cn.length+1)*17<=140737488355328) (.nd (cw (i+1)) (.lf (ZN x ((x.cont.getD i.toNat ae.zero).name::cn) (i+1)))))) (.lf (Pd x cn)))
  (λ((x:aW),_,(i:Int),_)=>x.cont.length-i.toNat) ?_
 rintro⟨(x:aW),(cn:List ByteArray),(i:Int),_⟩ r _ ⟨⟨h0,h1,h2,h3⟩,hr⟩;obtain rfl:=hr;obtain⟨k,rfl⟩:∃k:Nat,i=k:=⟨i.toNat,by omega⟩;have hl:x.rc.length=x.cont.length:=(aaP (α:=ae)).symm;show∃q,(T.br (decide ((k:Int)<x.rc.length)) _ _).hit q/\_;rw[hl,aae];by_cases hk:k<x.cont.length
 ·refine⟨_,aC (decide_eq_true (by omega)) ⟨⟨by omega,by omega⟩,by omega,⟨by omega,by omega⟩,rfl⟩,?_,⟨by omega,by omega,?_,h3⟩,?_⟩
  ·show x.cont.length-(k+1)<x.cont.length-k;omega
  ·rw[aaJ];omega
  ·show Pd x (((x.cont.drop (k+1)).map (·.name)).reverse++((x.cont.getD k ae.zero).name::cn))=_;rw[getD_drop ae.zero hk,aco,ab8,abS];rfl
 ·refine⟨_,aK (decide_eq_false (by omega)) rfl,?_⟩;rw[aaQ (by omega)];rfl
abbrev l4L:List (Nat×SS):=[(0,sZ),(4,sOB),(12,sI)]
abbrev l4O:List (Nat×SS):=[(0,sZ)]
def O6 (x:gU) (us:List Bool) (i:Int):LE l4L l4O [(0,sZ)]:=.back (x,us,i,())
def CP (x:gU):LE l4L l4O [(0,sZ)]:=.out (x,())
theorem T8 {x:gU} {c d line vM:Int} (hc:c≠0):(x.note c line).note d vM=x.note c line:=congrArg x.setF (aez hc)
theorem T9 {x:gU} (line:Int):x.note 0 line=x:=congrArg x.setF (Oq line)
theorem OW:cL KU 4 8 l4L l4O [(0,sZ)] λ((x:gU),(us:List Bool),(i:Int),_)=>.nd (0<=i/\i<=us.length) (.lf (CP (x.note (if(us.reverse.drop i.toNat).contains false then 6 else 0) 0))):=by
 refine fy _ (nL _ _) 99 4 8 l4L l4O [(0,sZ)] (λ((x:gU),(us:List Bool),(i:Int),_)=>.br (decide (i<us.length)) (.nd (0<=i/\i<us.length) (.br (!(us.reverse.getD i.toNat false)) (.nd ((0:Int)≠6) (.nd (cw (i+1)) (.lf (O6 (x.note 6 0) us (i+1))))) (.nd (cw (i+1)) (.lf (O6 x us (i+1)))))) (.lf (CP x)))
  (λ(_,(us:List Bool),(i:Int),_)=>us.length-i.toNat) ?_
 rintro⟨(x:gU),(us:List Bool),(i:Int),_⟩ r rh ⟨⟨h0,h1⟩,hr⟩;obtain rfl:=hr;have hl:us.length<=9223372036854775807:=rh.2.1;obtain⟨k,rfl⟩:∃k:Nat,i=k:=⟨i.toNat,by omega⟩;rw[aae];by_cases hk:k<us.length
 ·have hd:us.length-(k+1)<us.length-k:=by omega
  have dQ:cw ((k:Int)+1):=⟨by omega,by omega⟩;have hx:=getD_drop (xs:=us.reverse) (i:=k) false (by rw[aaP];exact hk);rw[hx];cases hb:us.reverse.getD k false with
  | false=>
   refine⟨_,aC (decide_eq_true (by omega)) ⟨⟨by omega,by omega⟩,aC (by rw[aae,hb];rfl) ⟨by decide,dQ,rfl⟩⟩,hd,⟨by omega,by omega⟩,?_⟩;show CP ((x.note 6 0).note _ 0)=_;rw[T8 (by decide)];simp
  | true=>
   refine⟨_,aC (decide_eq_true (by omega)) ⟨⟨by omega,by omega⟩,aK (by rw[aae,hb];rfl) ⟨dQ,rfl⟩⟩,hd,⟨by omega,by omega⟩,?_⟩;show CP (x.note (if(us.reverse.drop (k+1)).contains false then 6 else 0) 0)=_;simp
 ·refine⟨_,aK (decide_eq_false (by omega)) rfl,?_⟩;rw[aaQ (by rw[aaP];omega)];exact congrArg CP (T9 _).symm
abbrev Sf:List (Nat×SS):=[(0,sZ),(2,R4),(4,sOB),(5,sI)]
abbrev Se:List (Nat×SS):=[(0,sZ),(4,sOB)]
def Pb (cn:List ByteArray) (i:Int) (x:gU) (us:List Bool):LE Sf Se [(0,sZ)]:=.back (x,cn,us,i+1,())
def IN (x:gU) (us:List Bool):LE Sf Se [(0,sZ)]:=.out (x,us,())
def vU (x:gU):LE Sf Se [(0,sZ)]:=.ret (.tup []) (x,())
def gU.rm (x:gU):List (List ByteArray×List ByteArray):=x.2.2.2.2.2.2.2.2.2.2.2.2.2.2.2.2.1
def ju.nmAt (x:ju) (i:Int):List ByteArray×List ByteArray:=List.getD (List.reverse (α:=List ByteArray×List ByteArray) x.2.2.2.2.2.2.2.2.2.2.2.2.2.2.2.2.1) i.toNat ([],[])
def ju.rm (x:ju):List (List ByteArray×List ByteArray):=x.2.2.2.2.2.2.2.2.2.2.2.2.2.2.2.2.1
def Ux {L:Type} (out:ju->List Bool->T L) (ret:gU->L) (x:ju) (u:List Bool) (ps cs:List Int) (e:dG):T L:=.br (decide (e.no=0)) (out (x.withP ps.reverse cs.reverse) u.reverse) (.lf (ret ((x.withP ps.reverse cs.reverse).cl.note e.no e.line)))
section
variable (cn:List ByteArray) (i:Int)
def aeU (y:ju) (us:List Bool):T (LE Sf Se [(0,sZ)]):=.nd (cw (i+1)) (.lf (Pb cn i y.cl us))
def aeV (y:ju) (us:List Bool):T (LE Sf Se [(0,sZ)]):=.nd (0<=i/\i<y.rm.length) (.nd (lkP y us y.cs i (y.nmAt i).2 (y.nmAt i).2.length 0) (Ux (aeU cn i) vU y us.reverse y.ps.reverse (dO cn.reverse (y.ln i).2 ((y.nmAt i).2.drop (Int.toNat 0)) y.cs.reverse).1 (dO cn.reverse (y.ln i).2 ((y.nmAt i).2.drop (Int.toNat 0)) y.cs.reverse).2))
def akA (y:ju) (us:List Bool):T (LE Sf Se [(0,sZ)]):=.nd (lkP y us y.ps i (y.nmAt i).1 (y.nmAt i).1.length 0) (Ux (aeV cn i) vU y (bS y.prec (y.ln i).1 ((y.nmAt i).1.drop (Int.toNat 0)) us.reverse y.ps.reverse).1.1 (bS y.prec (y.ln i).1 ((y.nmAt i).1.drop (Int.toNat 0)) us.reverse y.ps.reverse).1.2 y.cs.reverse (bS y.prec (y.ln i).1 ((y.nmAt i).1.drop (Int.toNat 0)) us.reverse y.ps.reverse).2)
def OU (x:gU) (us:List Bool):T (LE Sf Se [(0,sZ)]):=.br (decide (i<x.rm.length)) (.nd (0<=i/\i<x.rm.length) (.nd (x.z.2.1.length<x.z.1) (akA cn i x.op us))) (.lf (IN x us))
end
def oY (prec cn:List ByteArray):List (List ByteArray×List ByteArray)->List (Int×Int)->List aj->List ByteArray->List Bool->(List aj×List ByteArray×List Bool)×dG
 | [],_,done,rest,u=>((done,rest,u),⟨0,0⟩)
 | v::vs,ls,done,rest,u=>
  if(bS prec (ls.getD 0 (0,0)).1 v.1 u []).2.no=0 then
   if(dO cn (ls.getD 0 (0,0)).2 v.2 []).2.no=0 then oY prec cn vs (ls.drop 1) (done++[⟨rest.getD 0 ⟨#[]⟩,(bS prec (ls.getD 0 (0,0)).1 v.1 u []).1.2,(dO cn (ls.getD 0 (0,0)).2 v.2 []).1⟩]) (rest.drop 1) (bS prec (ls.getD 0 (0,0)).1 v.1 u []).1.1
   else((done++[⟨rest.getD 0 ⟨#[]⟩,(bS prec (ls.getD 0 (0,0)).1 v.1 u []).1.2,(dO cn (ls.getD 0 (0,0)).2 v.2 []).1⟩],rest.drop 1,(bS prec (ls.getD 0 (0,0)).1 v.1 u []).1.1),(dO cn (ls.getD 0 (0,0)).2 v.2 []).2)
  else((done++[⟨rest.getD 0 ⟨#[]⟩,(bS prec (ls.getD 0 (0,0)).1 v.1 u []).1.2,[]⟩],rest.drop 1,(bS prec (ls.getD 0 (0,0)).1 v.1 u []).1.1),(bS prec (ls.getD 0 (0,0)).1 v.1 u []).2)
def gU.rl (x:gU):List (Int×Int):=x.2.2.2.2.2.2.2.2.2.2.2.2.2.2.2.1
def gU.prec (x:gU):List ByteArray:=x.2.2.2.2.1
def gU.go (x:gU) (cn:List ByteArray) (us:List Bool) (i:Int):(List aj×List ByteArray×List Bool)×dG:=oY x.prec cn.reverse (x.rm.reverse.drop i.toNat) (x.rl.reverse.drop i.toNat) x.z.2.1 x.z.2.2 us.reverse
def gU.withZ (x:gU) (d:List aj) (r:List ByteArray):gU:=x.setZ (x.z.1,d,r)
def ZB (x:gU) (g:(List aj×List ByteArray×List Bool)×dG):T (LE Sf Se [(0,sZ)]):=.br (decide (g.2.no=0)) (.lf (IN (x.withZ g.1.1 g.1.2.1) g.1.2.2.reverse)) (.lf (vU ((x.withZ g.1.1 g.1.2.1).note g.2.no g.2.line)))
def aeT (x:gU) (us:List Bool) (i:Int):Prop:=0<=i/\i<=x.rm.length/\i=x.z.2.1.length/\x.rl.length=x.rm.length/\x.z.1=x.rm.length/\us.length=x.prec.length/\x.rm.length<=1099511627776/\∀p∈x.rm.reverse,p.1.length<=1099511627776/\p.2.length<=1099511627776
theorem vI (prec:List ByteArray) (line:Int):∀(l:List ByteArray) (u:List Bool) (a:List Int),(bS prec line l u a).1.1.length=u.length
 | [],_,_=>rfl
 | s::l,u,a=>by
  unfold bS;split
  ·rfl
  ·split
   ·rfl
   ·rw[vI];exact ab1
theorem OZ:cL KU 1 2 Sf Se [(0,sZ)] λ((x:gU),(cn:List ByteArray),(us:List Bool),(i:Int),_)=>.nd (aeT x us i) (ZB x (x.go cn us i)):=by
 refine fy _ (((nL _ _).add 2 _ OY).add 3 _ OX) 99 1 2 Sf Se [(0,sZ)] (λ((x:gU),(cn:List ByteArray),(us:List Bool),(i:Int),_)=>OU cn i x us)
  (λ((x:gU),_,_,(i:Int),_)=>x.rm.length-i.toNat) ?_
 rintro⟨(x:gU),(cn:List ByteArray),(us:List Bool),(i:Int),_⟩ r _ ⟨⟨h0,h1,h2,h3,h4,h5,h6,h7⟩,hr⟩;obtain⟨k,rfl⟩:∃k:Nat,i=k:=⟨i.toNat,by omega⟩;show∃q,(OU cn k x us).hit q/\_;have hr:(ZB x (x.go cn us k)).hit r:=hr;unfold OU;have yH:x.rm.reverse.length=x.rm.length:=aaP;have hll:x.rl.reverse.length=x.rl.length:=aaP;by_cases hk:k<x.rm.length
 ·unfold gU.go at hr;rw[aae,getD_drop (([],[]):List ByteArray×List ByteArray) (by rw[yH];exact hk),oY] at hr;have hm:=h7 (x.rm.reverse.getD k ([],[])) (by rw[aal,aac (by rw[yH];exact hk)];exact ach _);have Mt:x.op.nmAt k=x.rm.reverse.getD k ([],[]):=rfl;have hln:(x.rl.reverse.drop k).getD 0 (0,0)=x.op.ln k:=by
   show _=x.rl.reverse.getD k (0,0);rw[aal,acA,aal,adq]
  rw[hln,<-Mt] at hr;rw[<-Mt] at hm;have rW:=vI x.prec (x.op.ln k).1 (x.op.nmAt k).1 us.reverse [];have afA:lkP x.op us x.op.ps k (x.op.nmAt k).1 (x.op.nmAt k).1.length 0:=⟨by omega,by omega,rfl,h2,by show(k:Int)<x.rl.length;omega,h5,rfl,hm.1⟩;have hC:∀{q},(Ux (aeV cn k) vU x.op (bS x.prec (x.op.ln k).1 (x.op.nmAt k).1 us.reverse []).1.1 (bS x.prec (x.op.ln k).1 (x.op.nmAt k).1 us.reverse []).1.2 [] (bS x.prec (x.op.ln k).1 (x.op.nmAt k).1 us.reverse []).2).hit q->(OU cn k x us).hit q:=λh=>aC (decide_eq_true (by omega)) ⟨⟨by omega,by omega⟩,by omega,afA,h⟩;generalize bS x.prec (x.op.ln k).1 (x.op.nmAt k).1 us.reverse []=p at*;obtain⟨⟨u,ps⟩,e⟩:=p;simp only at hr hC rW;by_cases he:e.no=0
  ·rw[if_pos he] at hr;have afz:lkP (x.op.withP ps.reverse [].reverse) u.reverse [] k (x.op.nmAt k).2 (x.op.nmAt k).2.length 0:=⟨by omega,by omega,rfl,h2,by show(k:Int)<x.rl.length;omega,by rw[aaP,rW,aaP];exact h5,rfl,hm.2⟩;have hD:∀{q},(Ux (aeU cn k) vU (x.op.withP ps.reverse [].reverse) u.reverse.reverse ps.reverse.reverse (dO cn.reverse (x.op.ln k).2 (x.op.nmAt k).2 []).1 (dO cn.reverse (x.op.ln k).2 (x.op.nmAt k).2 []).2).hit q->(OU cn k x us).hit q:=λh=>hC (aC (decide_eq_true he) ⟨⟨by omega,by show(k:Int)<x.rm.length;omega⟩,afz,h⟩);generalize dO cn.reverse (x.op.ln k).2 (x.op.nmAt k).2 []=c at*;obtain⟨cs,e2⟩:=c;simp only at hr hD;rw[aat,aat] at hD;by_cases he2:e2.no=0
   ·rw[if_pos he2] at hr;have tU:((x.op.withP ps.reverse [].reverse).withP ps.reverse cs.reverse).cl=x.withZ (x.z.2.1++[⟨x.z.2.2.getD 0 ⟨#[]⟩,ps,cs⟩]) (x.z.2.2.drop 1):=by
     show x.withZ (x.z.2.1++[⟨x.z.2.2.getD 0 ⟨#[]⟩,ps.reverse.reverse,cs.reverse.reverse⟩]) (x.z.2.2.drop 1)=_;rw[aat,aat]
    have aai:(x.op.nm:ByteArray)=x.z.2.2.getD 0 ⟨#[]⟩:=rfl;generalize x.z.2.2.getD 0 ⟨#[]⟩=nm at*;generalize hD3:x.z.2.1++[⟨nm,ps,cs⟩]=d at*;generalize x.z.2.2.drop 1=rest at*;refine⟨Pb cn k (x.withZ d rest) u.reverse,hD (aC (decide_eq_true he2) ⟨⟨by omega,by omega⟩,by rw[<-tU];rfl⟩),?_,?_,?_⟩
    ·show x.rm.length-(k+1)<x.rm.length-k;omega
    ·refine⟨by omega,by show((k:Int)+1)<=x.rm.length;omega,?_,h3,h4,?_,h6,h7⟩
     ·show((k:Int)+1)=(d.length:Nat);rw[<-hD3,aaM,abA];omega
     ·show u.reverse.length=x.prec.length;rw[aaP,rW,aaP];exact h5
    ·have hgo:(x.withZ d rest).go cn u.reverse ((k:Int)+1)=oY x.prec cn.reverse (x.rm.reverse.drop (k+1)) ((x.rl.reverse.drop k).drop 1) d rest u:=by
      rw[adh];show oY x.prec cn.reverse (x.rm.reverse.drop (k+1)) (x.rl.reverse.drop (k+1)) d rest u.reverse.reverse=_;rw[aat]
     show(ZB (x.withZ d rest) ((x.withZ d rest).go cn u.reverse ((k:Int)+1))).hit r;rw[hgo];exact hr
   ·rw[if_neg he2] at hr;have h:=hr.2 (decide_eq_false he2);refine⟨_,hD (aK (decide_eq_false he2) rfl),?_⟩;rw[<-h];show vU (gU.note (x.withZ (x.z.2.1++[⟨x.z.2.2.getD 0 ⟨#[]⟩,ps.reverse.reverse,cs.reverse.reverse⟩]) (x.z.2.2.drop 1)) e2.no e2.line)=_;rw[aat,aat]
  ·rw[if_neg he] at hr;have h:=hr.2 (decide_eq_false he);refine⟨_,hC (aK (decide_eq_false he) rfl),?_⟩;rw[<-h];show vU (gU.note (x.withZ (x.z.2.1++[⟨x.z.2.2.getD 0 ⟨#[]⟩,ps.reverse.reverse,[]⟩]) (x.z.2.2.drop 1)) e.no e.line)=_;rw[aat]
 ·unfold gU.go at hr;rw[aae,aaQ (by omega),oY] at hr;have h:=hr.1 (decide_eq_true rfl);refine⟨_,aK (decide_eq_false (by omega)) rfl,?_⟩;rw[<-h];show IN x us=IN x us.reverse.reverse;rw[aat]
def aW.cn (x:aW):List ByteArray:=((x.cont.drop (Int.toNat 0)).map (·.name)).reverse++[]
def aW.prec (x:aW):List ByteArray:=x.2.2.2.2.1
def aW.us (x:aW):List Bool:=List.replicate (x.prec.length:Int).toNat false
def aW.go (x:aW):(List aj×List ByteArray×List Bool)×dG:=x.zb.go x.cn x.us 0
def yo (x:aW):gU:=if x.go.2.no=0 then(x.zb.withZ x.go.1.1 x.go.1.2.1).note (if x.go.1.2.2.contains false then 6 else 0) 0 else(x.zb.withZ x.go.1.1 x.go.1.2.1).note x.go.2.no x.go.2.line
abbrev SRZ:=XV×gU×Unit
def anZ (x:gU):SRZ:=(.tup [],x,())
def lkB (x:aW):T SRZ:=.nd ((0:Int)<=0/\(0:Int)<=x.cont.length/\(([]:List ByteArray).length:Int)=0/\x.cont.length<=1099511627776) (.nd ((0:Int)<=(x.prec.length:Int)/\(x.prec.length:Int)=x.prec.length/\(x.prec.length:Int)*(1+1)<=281474976710656)
 (.nd (aeT x.zb x.us 0) (.br (decide (x.go.2.no=0)) (.nd ((0:Int)<=0/\(0:Int)<=x.go.1.2.2.reverse.length) (.lf (anZ ((x.zb.withZ x.go.1.1 x.go.1.2.1).note (if(x.go.1.2.2.reverse.reverse.drop (Int.toNat 0)).contains false then 6 else 0) 0)))) (.lf (anZ ((x.zb.withZ x.go.1.1 x.go.1.2.1).note x.go.2.no x.go.2.line))))))
def IG (x:aW):Prop:=x.cont.length<=1099511627776/\x.prec.length<=1099511627776/\x.lines.length=x.names.length/\x.snm.length=x.names.length/\x.names.length<=1099511627776/\∀p∈x.names,p.1.length<=1099511627776/\p.2.length<=1099511627776
theorem O2:ew Tryz.prog 65 [0] [(0,sT)] [(0,sZ)] λ((x:aW),_)=>.nd (IG x) (.lf (anZ (yo x))):=by
 refine Ba (R:=KU) ((((nL _ _).add 0 _ O0).add 1 _ OZ).add 4 _ OW) 99 [(0,sT)] [(0,sZ)] (λ((x:aW),_)=>lkB x) ?_ Tryz.func65;rintro⟨(x:aW),_⟩ r _ ⟨⟨h1,h2,h3,h4,h5,h6⟩,hr⟩;obtain rfl:=hr;have hl:∀{α:Type} (l:List α),l.reverse.length=l.length:=λl=>aaP;have e1:x.zb.rm.length=x.names.length:=(hl x.rm).symm;have e2:x.zb.rl.length=x.lines.length:=(hl x.rl).symm;have e3:x.rs.length=x.snm.length:=(hl x.rs).symm;refine⟨⟨by omega,by omega,rfl,h1⟩,⟨by omega,rfl,by omega⟩,⟨by omega,by omega,rfl,by omega,?_,?_,by omega,h6⟩,?_⟩
 ·show x.rs.length=_;omega
 ·show(List.replicate _ false).length=x.prec.length;rw[ado];omega
 ·unfold yo;by_cases h:x.go.2.no=0
  ·rw[if_pos h];refine aC (decide_eq_true h) ⟨⟨by omega,by omega⟩,?_⟩;rw[aat];rfl
  ·rw[if_neg h];exact aK (decide_eq_false h) rfl
noncomputable def lkS:aW->gU:=shut yo
theorem ZA (x:aW):lkS x=yo x:=congrFun (gi yo) x
theorem KW:ew Tryz.prog 65 [0] [(0,sT)] [(0,sZ)] λ((x:aW),_)=>.nd (IG x) (.lf (anZ (lkS x))):=by
 unfold lkS;rw[gi];exact O2
noncomputable def C9:eP Tryz.prog:=bA WP [⟨_,_,_,find_ok⟩,⟨_,_,_,mP⟩] [⟨_,_,_,_,_,jN⟩,⟨_,_,_,_,_,L6⟩,⟨_,_,_,_,_,KW⟩]
noncomputable abbrev cfn:=Tryz.f24
abbrev elC:List CS:=[.d .str,.d tI,.d tI,.d tI,.d (.list .str),.d (.list (.st 3)),.d (.list (.st 4)),.d tI,.d tI,.d .bool,.d (.list .limb),.d (.list .limb),.d tI,.d .str]
abbrev sEb:SS:=.box 30 elC
abbrev sGb:SS:=.box 48 [.d tI,.d tI]
abbrev sUb:SS:=.box 33 [.d .str,.d (.list (.st 1))]
abbrev MD:=eB elC
abbrev MC:=eB [.d tI,.d tI]
abbrev X3:=eB [.d .str,.d (.list (.st 1))]
def X3.bs (u:X3):List ak:=u.2.1
noncomputable abbrev abr:Rg Tryz.prog cfn.ntmps:=o8 (mi C9 cfn) [(19,agi 0 6)] []
abbrev c0L:List (Nat×SS):=[(4,sT),(1,sUb),(2,sEb),(3,sGb),(5,sI)]
abbrev SF:List (Nat×SS):=[(4,sT),(2,sEb),(3,sGb)]
def abM (x:aW) (u:X3) (e:MD) (g:MC) (i:Int):LE c0L SF []:=.back (x,u,e,g,i,())
def D1 (x:aW) (e:MD) (g:MC):LE c0L SF []:=.out (x,e,g,())
def ak.zero:ak:=⟨⟨#[]⟩,⟨#[]⟩,[],0⟩
def c0T (x:aW) (u:X3) (e:MD) (g:MC) (i:Int):T (LE c0L SF []):=.br (decide (i<u.bs.length)) (.br (x.err==0) (.nd (0<=i/\i<u.bs.length) (.nd (GL x (u.bs.getD i.toNat ak.zero)) (.nd (cw (i+1)) (.lf (abM (.ofR (fM x.r (u.bs.getD i.toNat ak.zero))) u e g (i+1)))))) (.lf (D1 x e g))) (.lf (D1 x e g))
abbrev c1L:List (Nat×SS):=[(4,sT),(2,sEb),(3,sGb),(50,R4),(51,sI),(52,sI)]
def Ri (x:aW) (e:MD) (g:MC) (l:List ByteArray) (n i:Int):LE c1L SF []:=.back (x,e,g,l,n,i,())
def DZ (x:aW) (e:MD) (g:MC):LE c1L SF []:=.out (x,e,g,())
def c1T (x:aW) (e:MD) (g:MC) (l:List ByteArray) (n i:Int):T (LE c1L SF []):=.br (decide (i<n)) (.nd (0<=i/\i<l.length) (.br (decide (Lib.idxOfS x.seen (l.reverse.getD i.toNat ⟨#[]⟩)<0)) (.nd ((0:Int)≠6) (.nd (cw (i+1)) (.lf (Ri (x.note 6 0) e g l n (i+1))))) (.nd (cw (i+1)) (.lf (Ri x e g l n (i+1)))))) (.lf (DZ x e g))
def gA (t:eD):Prop:=t.e.styl=(gH t.e.styl).map λn=>⟨n,[],[]⟩
theorem WZ (x:aW):aW.ofR x.r=x:=(mM x x.e x.er rfl rfl).symm
theorem Ih (x:aW):gA x.r:=by
 show x.styl=(gH x.styl).map _;unfold aW.styl;rw[Af]
theorem xY {t:eD} (h:gA t):(aW.ofR t).r=t:=by
 obtain⟨e,seen,lines,names,f⟩:=t;obtain⟨t1,t2,t3,t4,t5,t6,t7,t8,t9,t10,t11,t12⟩:=e;have h:t7=(gH t7).map λn=>⟨n,[],[]⟩:=h;show(⟨⟨t1,t2,t3,t4,t5,t6.reverse.reverse,(gH t7).reverse.reverse.map λn=>⟨n,[],[]⟩,t8,t9,t10,t11,t12⟩,seen.reverse.reverse,lines.reverse.reverse,names.reverse.reverse,f⟩:eD)=_;simp only[aat];rw[<-h]
def grT (t t':eD):Prop:=t'.seen.length<=t.seen.length+1/\t'.e.cont.length<=t.e.cont.length+1/\t'.e.styl.length<=t.e.styl.length+1/\t'.names.length<=t.names.length+1/\t'.lines.length<=t.lines.length+1
def ol (t:eD):Prop:=t.names.length=t.e.styl.length/\t.lines.length=t.e.styl.length
theorem Oz (a b:List aj):gH (a++b)=gH a++gH b:=ac9
theorem Gm (t:eD) (b:ak) (y:em) (h1:y.e.cont=t.e.cont) (h2:y.e.styl=t.e.styl):grT t (sk t b y)/\(gA t->gA (sk t b y))/\(ol t->ol (sk t b y)):=by
 unfold sk;simp only;have e1:(t.seen++[b.kind]).length=t.seen.length+1:=by simp
 split
 ·exact⟨⟨by simp,by simp[h1],by simp[h2],by simp,by simp⟩,λh=>by unfold gA at h ⊢;simp only[h2];exact h,λh=>by unfold ol at h ⊢;simp only[h2];exact h⟩
 split
 ·exact⟨⟨by simp,by simp[h1],by simp[h2],by simp,by simp⟩,λh=>by unfold gA at h ⊢;simp only[h2];exact h,λh=>by unfold ol at h ⊢;simp only[h2];exact h⟩
 split
 ·refine⟨⟨by simp,by simp[h1],by simp[h2],by simp,by simp⟩,λh=>?_,λh=>?_⟩
  ·unfold gA at h ⊢;simp only[h2,Oz,ac9];rw[<-h];rfl
  ·unfold ol at h ⊢;simp only[h2,aaM,abA];omega
 split
 ·exact⟨⟨by simp[eD.note],by simp[h1,eD.note],by simp[h2,eD.note],by simp[eD.note],by simp[eD.note]⟩,λh=>by unfold gA eD.note at*;simp only[h2];exact h,λh=>by unfold ol eD.note at*;simp only[h2];exact h⟩
 ·exact⟨⟨by simp,by simp[h1],by simp[h2],by simp,by simp⟩,λh=>by unfold gA at h ⊢;simp only[h2];exact h,λh=>by unfold ol at h ⊢;simp only[h2];exact h⟩
theorem jC (t:eD) (b:ak):grT t (fM t b)/\(gA t->gA (fM t b))/\(ol t->ol (fM t b)):=by
 obtain⟨r1,r2⟩:=mK b.kind b.fields (em.start t b);exact Gm t b _ r1 r2
def bOk (b:ak):Prop:=b.name.size<=9223372036854775807/\b.fields.length<=1099511627776/\∀f∈b.fields,LD b.kind f
def jY (t:eD) (k:Nat):Prop:=t.seen.length+k<=1099511627776/\t.e.cont.length+k<=1099511627776/\t.e.styl.length+k<=1099511627776/\t.names.length+k<=1099511627776/\t.lines.length+k<=1099511627776
theorem jY.blk {x:aW} {b:ak} {k:Nat} (h:jY x.r k) (hb:bOk b):GL x b:=by
 obtain⟨h1,h2,h3,h4,h5⟩:=h;have hlr:∀{α:Type} (l:List α),l.reverse.length=l.length:=λl=>aaP;have l1:x.rn.length=x.r.seen.length:=(hlr x.rn).symm;have l2:x.rc.length=x.r.e.cont.length:=(hlr x.rc).symm;have l3:x.rs.length=x.r.e.styl.length:=by
  show _=(x.snm.map _).length;rw[acf];exact(hlr x.rs).symm
 have l4:x.rm.length=x.r.names.length:=(hlr x.rm).symm;have l5:x.rl.length=x.r.lines.length:=(hlr x.rl).symm;exact⟨hb.1,hb.2.1,hb.2.2,by omega,by omega,by omega,by omega,by omega⟩
theorem jY.next {t:eD} {b:ak} {k:Nat} (h:jY t (k+1)):jY (fM t b) k:=by
 obtain⟨h1,h2,h3,h4,h5⟩:=h;obtain⟨g1,g2,g3,g4,g5⟩:=(jC t b).1;exact⟨by omega,by omega,by omega,by omega,by omega⟩
noncomputable def c0S:List ak->aW->aW:=shut λl x=>.ofR (cz l x.r)
theorem GD (l:List ak) (x:aW):c0S l x=.ofR (cz l x.r):=by unfold c0S;rw[gi]
theorem DU:cL abr 0 0 c0L SF [] λ((x:aW),(u:X3),(e:MD),(g:MC),(i:Int),_)=>.nd (0<=i/\i<=u.bs.length/\u.bs.length<=1099511627776/\(∀b∈u.bs,bOk b)/\jY x.r (u.bs.length-i.toNat)) (.lf (D1 (c0S (u.bs.drop i.toNat) x) e g)):=by
 refine fy _ (nL _ _) 99 0 0 c0L SF [] (λ((x:aW),(u:X3),(e:MD),(g:MC),(i:Int),_)=>c0T x u e g i)
  (λ(_,(u:X3),_,_,(i:Int),_)=>u.bs.length-i.toNat) ?_
 rintro⟨(x:aW),(u:X3),(e:MD),(g:MC),(i:Int),_⟩ r _ ⟨⟨h0,h1,h2,h3,h4⟩,hr⟩;have hr:D1 (c0S (u.bs.drop i.toNat) x) e g=r:=hr;rw[GD] at hr;obtain rfl:=hr;obtain⟨k,rfl⟩:∃k:Nat,i=k:=⟨i.toNat,by omega⟩;rw[aae] at h4 ⊢;show∃q,(c0T x u e g k).hit q/\_;unfold c0T;by_cases hk:k<u.bs.length
 ·rw[getD_drop ak.zero hk,cz];have hb:=h3 (u.bs.getD k ak.zero) (by rw[aal,aac hk];exact ach hk);by_cases he:x.err=0
  ·rw[if_neg (by simpa using(show x.r.f.no=0 from he))];refine⟨_,aC (decide_eq_true (by omega)) (aC (beq_iff_eq.2 he) ⟨⟨by omega,by omega⟩,h4.blk (by rw[aae];exact hb),⟨by omega,by omega⟩,rfl⟩),?_,⟨by omega,by omega,h2,h3,?_⟩,?_⟩
   ·show u.bs.length-(k+1)<u.bs.length-k;omega
   ·rw[aae];have hp:=(jC x.r (u.bs.getD k ak.zero)).2.1 (Ih x);rw[xY hp];have:u.bs.length-k=(u.bs.length-((k:Int)+1).toNat)+1:=by omega
    rw[this] at h4;exact h4.next
   ·rw[aae];have hp:=(jC x.r (u.bs.getD k ak.zero)).2.1 (Ih x);show D1 (c0S (u.bs.drop (k+1)) (aW.ofR (fM x.r (u.bs.getD k ak.zero)))) e g=_;rw[GD,xY hp]
  ·rw[if_pos (by exact he),WZ];exact⟨_,aC (decide_eq_true (by omega)) (aK (beq_eq_false_iff_ne.2 he) rfl),rfl⟩
 ·rw[aaQ (by omega),cz,WZ];exact⟨_,aK (decide_eq_false (by omega)) rfl,rfl⟩
def IC (seen:List ByteArray) (l:List ByteArray) (f:dG):dG:=l.foldl (λf k=>f.note (if dc seen k=true then 0 else 6) 0) f
noncomputable def c1S:aW->List ByteArray->aW:=shut λx l=>x.setE x.e (IC x.seen l x.er)
theorem GC (x:aW) (l:List ByteArray):c1S x l=x.setE x.e (IC x.seen l x.er):=by unfold c1S;rw[gi]
theorem DT:cL abr 1 2 c1L SF [] λ((x:aW),(e:MD),(g:MC),(l:List ByteArray),(n:Int),(i:Int),_)=>.nd (0<=i/\i<=l.length/\n=l.length) (.lf (DZ (c1S x (l.reverse.drop i.toNat)) e g)):=by
 refine fy _ (nL _ _) 99 1 2 c1L SF [] (λ((x:aW),(e:MD),(g:MC),(l:List ByteArray),(n:Int),(i:Int),_)=>c1T x e g l n i)
  (λ(_,_,_,(l:List ByteArray),_,(i:Int),_)=>l.length-i.toNat) ?_
 rintro⟨(x:aW),(e:MD),(g:MC),(l:List ByteArray),(n:Int),(i:Int),_⟩ r rh ⟨⟨h0,h1,rfl⟩,hr⟩;have hr:DZ (c1S x (l.reverse.drop i.toNat)) e g=r:=hr;rw[GC] at hr;obtain rfl:=hr;have hl:l.length<=9223372036854775807:=rh.2.2.2.1;obtain⟨k,rfl⟩:∃k:Nat,i=k:=⟨i.toNat,by omega⟩;rw[aae];show∃q,(c1T x e g l l.length k).hit q/\_;unfold c1T;by_cases hk:k<l.length
 ·rw[getD_drop (⟨#[]⟩:ByteArray) (by rw[aaP];exact hk)];have hd:l.length-(k+1)<l.length-k:=by omega
  have dQ:cw ((k:Int)+1):=⟨by omega,by omega⟩;have key:∀no,(if dc x.seen (l.reverse.getD k ⟨#[]⟩)=true then(0:Int) else 6)=no->DZ (c1S (x.note no 0) (l.reverse.drop (k+1))) e g=DZ (x.setE x.e (IC x.seen (l.reverse.getD k ⟨#[]⟩::l.reverse.drop (k+1)) x.er)) e g:=by
   rintro no rfl;rw[GC,nX];rfl
  by_cases h:dc x.seen (l.reverse.getD k ⟨#[]⟩)=true
  ·refine⟨_,aC (decide_eq_true (by omega)) ⟨⟨by omega,by omega⟩,aK (by rw[aae];unfold dc at h;simpa using h) ⟨dQ,rfl⟩⟩,hd,⟨by omega,by omega,rfl⟩,?_⟩;have:=key 0 (if_pos h);rw[ug] at this;exact this
  ·exact⟨_,aC (decide_eq_true (by omega)) ⟨⟨by omega,by omega⟩,aC (by rw[aae];unfold dc at h;simpa using h) ⟨by decide,dQ,rfl⟩⟩,hd,⟨by omega,by omega,rfl⟩,key 6 (if_neg h)⟩
 ·rw[aaQ (by rw[aaP];omega)];exact⟨_,aK (decide_eq_false (by omega)) rfl,rfl⟩
def cp0 (t:ByteArray):aW:=(t,(0:Int),(0:Int),(0:Int),[],[],[],(0:Int),(0:Int),false,[],[],(0:Int),⟨#[]⟩,[],[],[],(0:Int),(0:Int),())
def OA:AV:=.val (.slice none 0 0)
def Jk (f:Int×Int):XV:=.tup [(true,[.sym (.string ⟨#[]⟩),.sym (.int .i64 0),.sym (.int .i64 0),.sym (.int .i64 0),OA,OA,OA,.sym (.int .i64 0),.sym (.int .i64 0),.sym (.bool false),OA,OA,.sym (.int .i64 0),.sym (.string ⟨#[]⟩)]),(true,[.sym (.int .i64 f.1),.sym (.int .i64 f.2)])]
def gU.rc (x:gU):List ae:=x.2.2.2.2.2.1
def cpO (x:gU):XV:=.tup [(true,[.sym (.string x.1),.sym (.int .i64 x.2.1),.sym (.int .i64 x.2.2.1),.sym (.int .i64 x.2.2.2.1),.list .str x.2.2.2.2.1 false,.list (.st 3) x.rc.reverse !x.rc.isEmpty,.list (.st 4) x.z.2.1.reverse.reverse !x.z.2.1.reverse.isEmpty,.sym (.int .i64 x.2.2.2.2.2.2.2.1),.sym (.int .i64 x.2.2.2.2.2.2.2.2.1),.sym (.bool x.2.2.2.2.2.2.2.2.2.1),.list .limb x.2.2.2.2.2.2.2.2.2.2.1 false,.list .limb x.2.2.2.2.2.2.2.2.2.2.2.1 false,.sym (.int .i64 x.2.2.2.2.2.2.2.2.2.2.2.2.1),.sym (.string x.2.2.2.2.2.2.2.2.2.2.2.2.2.1)]),(true,[.sym (.int .i64 0),.sym (.int .i64 0)])]
noncomputable def cpN (x:gU):T XV:=.br (!(x.f.1==0)) (.lf (Jk x.f)) (.nd (x.z.1=x.z.2.1.length) (.lf (cpO x)))
noncomputable def cpM (x:aW):T XV:=.br (x.err==0) (.nd (IG x) (cpN (lkS x))) (.br (!(x.err==0)) (.lf (Jk x.f)) .bad)
noncomputable def cpL (bs:List ak) (x:aW):T XV:=.nd ((0:Int)<=0/\(0:Int)<=bs.length/\bs.length<=1099511627776/\(∀b∈bs,bOk b)/\jY x.r (bs.length-Int.toNat 0)) (.nd ((0:Int)<=0/\(0:Int)<=ik.reverse.length/\(ik.reverse.length:Int)=ik.reverse.length)
 (cpM (c1S (c0S (bs.drop (Int.toNat 0)) x) (ik.reverse.reverse.drop (Int.toNat 0)))))
noncomputable def cpB (s:aF):T XV:=.br (decide ((s.title.size:Int)>60)) (.nd ((0:Int)≠8) (cpL s.blocks ((cp0 s.title).note 8 0))) (.nd (s.title.size<=9223372036854775807) (.br (!fY s.title.data.toList) (.nd ((0:Int)≠8) (cpL s.blocks ((cp0 s.title).note 8 0))) (cpL s.blocks (cp0 s.title))))
def shT (t:eD):Prop:=t.e.prec.length<=1099511627776/\∀p∈t.names,p.1.length<=1099511627776/\p.2.length<=1099511627776
def shL (y:em):Prop:=y.e.prec.length<=1099511627776/\y.n0.length<=1099511627776/\y.n1.length<=1099511627776
theorem LC (k:ByteArray) (e:aa) (f:ai) (h:e.prec.length<=1099511627776) (hf:f.vals.length<=1099511627776):(gT k e f).1.prec.length<=1099511627776:=by
 unfold gT;repeat (split;· first|exact h|exact hf)
 exact h
theorem Ns (k:ByteArray) (y:em) (f:ai) (h:shL y) (hf:f.vals.length<=1099511627776):shL (eK k y f):=by
 unfold eK;simp only;generalize (y.f.note (if dc (aO k) f.key=true then 0 else 2) f.line).note (if dc y.known f.key=true then 3 else 0) f.line=f2;obtain⟨h1,h2,h3⟩:=h;split
 ·exact⟨h1,h2,h3⟩
 split
 ·exact⟨h1,h2,h3⟩
 split
 ·exact⟨h1,hf,h3⟩
 split
 ·exact⟨h1,h2,hf⟩
 ·exact⟨LC k y.e f h1 hf,h2,h3⟩
theorem xO (k:ByteArray):∀(l:List ai) (y:em),shL y->(∀f∈l,f.vals.length<=1099511627776)->shL (dj k l y)
 | [],_,h,_=>h
 | f::l,y,h,hf=>by
  unfold dj;split
  ·exact h
  ·exact xO k l _ (Ns k y f h (hf f aaz)) λg hg=>hf g (aa0 _ hg)
theorem L8 (t:eD) (b:ak) (h:shT t) (hb:bOk b):shT (fM t b):=by
 obtain⟨g1,g2,g3⟩:=xO b.kind b.fields (em.start t b) ⟨h.1,abz _,abz _⟩ λf hf=>(hb.2.2 f hf).1.2;unfold fM;generalize dj b.kind b.fields (em.start t b)=y at*;unfold sk;simp only;split
 ·exact⟨g1,h.2⟩
 split
 ·exact⟨g1,h.2⟩
 split
 ·refine⟨g1,λp hp=>?_⟩;rcases ab7.1 hp with hp|hp
  ·exact h.2 p hp
  ·obtain rfl:p=(y.n0,y.n1):=by simpa using hp
   exact⟨g2,g3⟩
 split
 ·exact⟨g1,h.2⟩
 ·exact⟨g1,h.2⟩
theorem kz:∀(l:List ak) (t:eD),(∀b∈l,bOk b)->shT t->gA t->ol t->jY t l.length->shT (cz l t)/\gA (cz l t)/\ol (cz l t)/\jY (cz l t) 0
 | [],t,_,h1,h2,h3,h4=>⟨h1,h2,h3,h4⟩
 | b::l,t,hb,h1,h2,h3,h4=>by
  unfold cz;split
  ·obtain⟨q1,q2,q3,q4,q5⟩:=h4;exact⟨h1,h2,h3,by unfold jY;omega⟩
  ·obtain⟨_,g2,g3⟩:=jC t b;exact kz l _ (λc hc=>hb c (aa0 _ hc)) (L8 t b h1 (hb b aaz)) (g2 h2) (g3 h3) h4.next
theorem yl (prec:List ByteArray) (line:Int):∀(l:List ByteArray) (u:List Bool) (a:List Int),cR prec line l u a=if(bS prec line l u a).2.no=0 then .ok (bS prec line l u a).1 else .error (bS prec line l u a).2
 | [],u,a=>by rw[cR,bS,if_pos rfl]
 | s::l,u,a=>by
  unfold cR bS;split
  ·rw[if_neg (by show¬(2:Int)=0;decide)]
  ·split
   ·rw[if_neg (by show¬(3:Int)=0;decide)]
   ·exact yl prec line l _ _
theorem ym (cn:List ByteArray) (line:Int):∀(l:List ByteArray) (a:List Int),o0 cn line l a=if(dO cn line l a).2.no=0 then .ok (dO cn line l a).1 else .error (dO cn line l a).2
 | [],a=>by rw[o0,dO,if_pos rfl]
 | s::l,a=>by
  unfold o0 dO;split
  ·rw[if_neg (by show¬(2:Int)=0;decide)]
  ·exact ym cn line l _
def ta (g:(List aj×List ByteArray×List Bool)×dG):Except dG (List aj):=if g.2.no=0 then(if g.1.2.2.contains false then .error ⟨6,0⟩ else .ok g.1.1) else .error g.2
theorem Ap (prec cn:List ByteArray):∀(vs:List (List ByteArray×List ByteArray)) (ls:List (Int×Int)) (ss done:List aj) (u:List Bool),vs.length=ss.length->ls.length=ss.length->iW prec cn vs ls ss u done=ta (oY prec cn vs ls done (gH ss) u)
 | [],ls,ss,done,u,_,_=>by
  have e:iW prec cn [] ls ss u done=if u.contains false then .error ⟨6,0⟩ else .ok done:=by unfold iW;rfl
  rw[e];rfl
 | v::vs,[],ss,_,_,h1,h2=>by simp at h1 h2;omega
 | v::vs,ln::ls,[],_,_,h1,_=>by simp at h1
 | v::vs,ln::ls,s::ss,done,u,h1,h2=>by
  have ih:=λd u=>Ap prec cn vs ls ss d u (by simpa using h1) (by simpa using h2);unfold iW;rw[yl];unfold oY;show _=ta (if(bS prec ln.1 v.1 u []).2.no=0 then if(dO cn ln.2 v.2 []).2.no=0 then oY prec cn vs ls (done++[⟨s.name,(bS prec ln.1 v.1 u []).1.2,(dO cn ln.2 v.2 []).1⟩]) (gH ss) (bS prec ln.1 v.1 u []).1.1 else((done++[⟨s.name,(bS prec ln.1 v.1 u []).1.2,(dO cn ln.2 v.2 []).1⟩],gH ss,(bS prec ln.1 v.1 u []).1.1),(dO cn ln.2 v.2 []).2) else((done++[⟨s.name,(bS prec ln.1 v.1 u []).1.2,[]⟩],gH ss,(bS prec ln.1 v.1 u []).1.1),(bS prec ln.1 v.1 u []).2));by_cases e1:(bS prec ln.1 v.1 u []).2.no=0
  ·rw[if_pos e1,if_pos e1];simp only;rw[ym];by_cases e2:(dO cn ln.2 v.2 []).2.no=0
   ·rw[if_pos e2,if_pos e2];exact ih _ _
   ·rw[if_neg e2,if_neg e2];unfold ta;rw[if_neg (by exact e2)]
  ·rw[if_neg e1,if_neg e1];unfold ta;rw[if_neg (by exact e1)]
theorem CF (prec cn:List ByteArray):∀(vs:List (List ByteArray×List ByteArray)) (ls:List (Int×Int)) (done:List aj) (rest:List ByteArray) (u:List Bool),(oY prec cn vs ls done rest u).2.no=0->(oY prec cn vs ls done rest u).1.1.length=done.length+vs.length
 | [],_,_,_,_,_=>rfl
 | v::vs,ls,done,rest,u,h=>by
  unfold oY at h ⊢;by_cases e1:(bS prec (ls.getD 0 (0,0)).1 v.1 u []).2.no=0
  ·rw[if_pos e1] at h ⊢;by_cases e2:(dO cn (ls.getD 0 (0,0)).2 v.2 []).2.no=0
   ·rw[if_pos e2] at h ⊢;rw[CF prec cn vs _ _ _ _ h,aaM,abA,aaJ];omega
   ·rw[if_neg e2] at h;exact absurd h e2
  ·rw[if_neg e1] at h;exact absurd h e1
def Gu (e:aa):XV:=.tup [(true,jS (.st 5) e),(true,[.sym (.int .i64 0),.sym (.int .i64 0)])]
def QW (r:aa×dG):T XV:=.br (decide (r.2.no=0)) (.lf (Gu r.1)) (.lf (Jk (r.2.no,r.2.line)))
def zI (s:aF):Prop:=s.title.size<=9223372036854775807/\s.blocks.length<=1099511627776/\∀b∈s.blocks,bOk b
theorem Ye (T:eD) (d:List aj):MP (cpO ((aW.ofR T).zb.withZ d []))=Gu { T.e with styl:=d }:=by
 show XV.tup [(true,[AV.sym (.string T.e.title),_,_,_,.list .str T.e.prec false,.list (.st 3) T.e.cont.reverse.reverse false,.list (.st 4) d.reverse.reverse false,_,_,_,_,_,_,_]),_]=_;rw[aat,aat];rfl
theorem LS (x:gU) (d:List aj) (r r':List ByteArray) (p:Int×Int):cpO ((x.withZ d r).setF p)=cpO (x.withZ d r'):=rfl
theorem VW {T:eD} (hf:T.f.no=0) (hl:ol T):∃q,(cpN (lkS (.ofR T))).hit q/\MP q=(match j3 T with|.ok l=>Gu { T.e with styl:=l }|.error e=>Jk (e.no,e.line)):=by
 have hgo:(aW.ofR T).go=oY T.e.prec (T.e.cont.map λc:ae=>c.name) T.names T.lines [] (gH T.e.styl) (List.replicate T.e.prec.length false):=by
  show oY T.e.prec (((T.e.cont.reverse.reverse.drop 0).map λc:ae=>c.name).reverse++[]).reverse (T.names.reverse.reverse.drop 0) (T.lines.reverse.reverse.drop 0) [] (gH T.e.styl).reverse.reverse (List.replicate T.e.prec.length false).reverse=_;simp only[aat,acr,acx,List.reverse_replicate]
 have hR:j3 T=ta (aW.ofR T).go:=by
  rw[hgo];exact Ap _ _ _ _ _ _ _ hl.1 hl.2
 have bJ:(aW.ofR T).go.2.no=0->(aW.ofR T).go.1.1.length=T.names.length:=λh=>by
  rw[hgo] at h ⊢;rw[CF _ _ _ _ _ _ _ h];simp
 have akZ:(aW.ofR T).zb.z.1=T.names.length:=by
  show(gH T.e.styl).reverse.length=_;rw[aaP];unfold gH;rw[acf];exact hl.1.symm
 have F7:∀(d:List aj) (r:List ByteArray),((aW.ofR T).zb.withZ d r).f.1=0:=λd r=>hf;rw[hR,ZA];unfold yo ta;generalize (aW.ofR T).go=g at*;obtain⟨⟨d,r,u⟩,e⟩:=g;simp only at bJ ⊢;unfold cpN;by_cases he:e.no=0
 ·rw[if_pos he,if_pos he];by_cases hu:u.contains false=true
  ·rw[if_pos hu,if_pos hu];refine⟨_,aC ?_ rfl,?_⟩
   ·show(!((nt _ 6 0).1==0))=true;rw[KM 0 (F7 d r) (by decide)];rfl
   ·show MP (Jk (nt _ 6 0))=_;rw[KM 0 (F7 d r) (by decide)];rfl
  ·rw[if_neg hu,if_neg hu];refine⟨_,aK ?_ ⟨?_,rfl⟩,?_⟩
   ·show(!((nt _ 0 0).1==0))=false;rw[Oq,F7 d r];rfl
   ·show(aW.ofR T).zb.z.1=d.length;rw[akZ,bJ he]
   ·exact(congrArg MP (LS (aW.ofR T).zb d r [] _)).trans (Ye T d)
 ·rw[if_neg he,if_neg he];refine⟨_,aC ?_ rfl,?_⟩
  ·show(!((nt _ e.no e.line).1==0))=true;rw[KM _ (F7 d r) he];simpa using he
  ·show MP (Jk (nt _ e.no e.line))=_;rw[KM _ (F7 d r) he];rfl
theorem VY {T:eD} (hp:gA T) (hl:ol T) (hs:shT T) (hr:jY T 0):∃q,(cpM (.ofR T)).hit q/\MP q=(if T.f.no≠0 then Jk (T.f.no,T.f.line) else match j3 T with|.ok l=>Gu { T.e with styl:=l }|.error e=>Jk (e.no,e.line)):=by
 have hR:(aW.ofR T).r=T:=xY hp;unfold cpM;by_cases hf:T.f.no=0
 ·rw[if_neg (by simpa using hf)];obtain⟨q,h1,h2⟩:=VW hf hl;refine⟨q,aC (beq_iff_eq.2 hf) ⟨?_,h1⟩,h2⟩;obtain⟨q1,q2,q3,q4,q5⟩:=hr;have e1:(aW.ofR T).cont=T.e.cont:=congrArg (λt:eD=>t.e.cont) hR;have e2:(aW.ofR T).lines=T.lines:=congrArg (λt:eD=>t.lines) hR;have e3:(aW.ofR T).names=T.names:=congrArg (λt:eD=>t.names) hR;have e4:(aW.ofR T).snm.length=T.e.styl.length:=by
   show(gH T.e.styl).reverse.reverse.length=_;rw[aat];unfold gH;rw[acf]
  unfold IG;rw[e1,e2,e3,e4];exact⟨by omega,hs.1,by rw[hl.1,hl.2],hl.1.symm,by omega,hs.2⟩
 ·rw[if_pos hf];exact⟨_,aK (beq_eq_false_iff_ne.2 hf) (aC (by show(!(T.f.no==0))=true;simpa using hf) rfl),rfl⟩
theorem DV (s:aF):eJ s=if(bY s).f.no≠0 then(aa.zero,(bY s).f) else match j3 (bY s) with|.error e=>(aa.zero,e)|.ok l=>({ (bY s).e with styl:=l },⟨0,0⟩):=rfl
theorem KX {T:eD} {e:dG} (hl:ol T) (h:j3 T=.error e):e.no≠0:=by
 have hR:j3 T=ta (oY T.e.prec (T.e.cont.map λc:ae=>c.name) T.names T.lines [] (gH T.e.styl) (List.replicate T.e.prec.length false)):=Ap _ _ _ _ _ _ _ hl.1 hl.2;rw[hR] at h;unfold ta at h;split at h
 ·split at h
  ·injection h with h;rw[<-h];decide
  ·cases h
 ·rename_i hn;injection h with h;rw[<-h];exact hn
theorem tD:ao Tryz.prog 24 true (az [(0,.st 2)] λ((s:aF),_)=>.nd (zI s) (QW (eJ s))):=by
 refine ao.imp (l0:=[(0,.st 2)]) (F:=λ((s:aF),_)=>cpB s) (pT (R:=abr) (((nL _ _).add 0 _ DU).add 1 _ DT) true 99 [(0,.st 2)] (λ((s:aF),_)=>cpB s) (λx r _ h=>⟨h,.inl rfl⟩) Tryz.func24) ?_;rintro⟨(s:aF),_⟩ r ⟨⟨h1,h2,h3⟩,hr⟩;have hr:(QW (eJ s)).hit r:=hr;have eu:∀no,no=(if 60<s.title.size\/fY s.title.data.toList=false then(8:Int) else 0)->∃q,(cpL s.blocks ((cp0 s.title).note no 0)).hit q/\MP q=(if(bY s).f.no≠0 then Jk ((bY s).f.no,(bY s).f.line) else match j3 (bY s) with|.ok l=>Gu { (bY s).e with styl:=l }|.error e=>Jk (e.no,e.line)):=by
  rintro no rfl;have h0:(cp0 s.title).note (if 60<s.title.size\/fY s.title.data.toList=false then(8:Int) else 0) 0=.ofR (eD.start s.title):=by
   rw[nM,mM _ _ _ rfl rfl];rfl
  have PH:gA (eD.start s.title):=rfl;have xk:jY (eD.start s.title) s.blocks.length:=⟨by show 0+_<=_;omega,by show 0+_<=_;omega,by show 0+_<=_;omega,by show 0+_<=_;omega,by show 0+_<=_;omega⟩;obtain⟨f1,f2,f3,f4⟩:=kz s.blocks (eD.start s.title) h3 ⟨abz _,λp hp=>by cases hp⟩ PH ⟨rfl,rfl⟩ xk;rw[h0];have Qd:c0S (s.blocks.drop (Int.toNat 0)) (.ofR (eD.start s.title))=.ofR (cz s.blocks (eD.start s.title)):=by
   rw[GD,xY PH];rfl
  have hb:bY s={ cz s.blocks (eD.start s.title) with f:=IC (cz s.blocks (eD.start s.title)).seen ik (cz s.blocks (eD.start s.title)).f }:=rfl;have hc1:c1S (.ofR (cz s.blocks (eD.start s.title))) (ik.reverse.reverse.drop (Int.toNat 0))=.ofR (bY s):=by
   have hR:=xY f2;rw[GC,mM _ _ _ rfl rfl,aat,hb];generalize cz s.blocks (eD.start s.title)=T at*;have e1:(aW.ofR T).e=T.e:=congrArg eD.e hR;have e2:(aW.ofR T).seen=T.seen:=congrArg eD.seen hR;have e3:(aW.ofR T).lines=T.lines:=congrArg eD.lines hR;have e4:(aW.ofR T).names=T.names:=congrArg eD.names hR;have e5:(aW.ofR T).er=T.f:=rfl;rw[e1,e2,e3,e4,e5];rfl
  have AO:gA (bY s)/\ol (bY s)/\shT (bY s)/\jY (bY s) 0:=by rw[hb];exact⟨f2,f3,f1,f4⟩
  obtain⟨q,q1,q2⟩:=VY AO.1 AO.2.1 AO.2.2.1 AO.2.2.2;refine⟨q,⟨⟨by omega,by omega,h2,h3,?_⟩,⟨by decide,by decide,rfl⟩,?_⟩,q2⟩
  ·rw[xY PH];exact xk
  ·rw[Qd,hc1];exact q1
 have bJ:ol (bY s):=by
  have xk:jY (eD.start s.title) s.blocks.length:=⟨by show 0+_<=_;omega,by show 0+_<=_;omega,by show 0+_<=_;omega,by show 0+_<=_;omega,by show 0+_<=_;omega⟩;exact(kz s.blocks (eD.start s.title) h3 ⟨abz _,λp hp=>by cases hp⟩ rfl ⟨rfl,rfl⟩ xk).2.2.1
 have amf:(if(bY s).f.no≠0 then Jk ((bY s).f.no,(bY s).f.line) else match j3 (bY s) with|.ok l=>Gu { (bY s).e with styl:=l }|.error e=>Jk (e.no,e.line))=r:=by
  rw[DV] at hr;unfold QW at hr;by_cases h0:(bY s).f.no≠0
  ·rw[if_pos h0] at hr ⊢;exact hr.2 (decide_eq_false h0)
  ·rw[if_neg h0] at hr ⊢;cases hL:j3 (bY s) with
   | ok l=>rw[hL] at hr;exact hr.1 (decide_eq_true rfl)
   | error e=>rw[hL] at hr;exact hr.2 (decide_eq_false (KX bJ hL))
 have fin:∀{q},(cpB s).hit q->MP q=(if(bY s).f.no≠0 then Jk ((bY s).f.no,(bY s).f.line) else match j3 (bY s) with|.ok l=>Gu { (bY s).e with styl:=l }|.error e=>Jk (e.no,e.line))->∃q,(cpB s).hit q/\∀(w:World) (S:Nat->Prop) (v:Value),XR [] w S q v->XR [] w S r v:=λ{q} h1 h2=>⟨q,h1,λw S v hv=>by rw[<-amf,<-h2];exact EX hv⟩;by_cases jb:60<s.title.size
 ·obtain⟨q,q1,q2⟩:=eu 8 (by rw[if_pos (.inl jb)]);exact fin (aC (decide_eq_true (by omega)) ⟨by decide,q1⟩) q2
 ·by_cases xC:fY s.title.data.toList=false
  ·obtain⟨q,q1,q2⟩:=eu 8 (by rw[if_pos (.inr xC)]);exact fin (aK (decide_eq_false (by omega)) ⟨h1,aC (by rw[xC];rfl) ⟨by decide,q1⟩⟩) q2
  ·obtain⟨q,q1,q2⟩:=eu 0 (by rw[if_neg λh=>h.elim jb xC]);rw[ug] at q1;exact fin (aK (decide_eq_false (by omega)) ⟨h1,aK (by simpa using xC) q1⟩) q2
end Go.Proofs.YtdbpbfglhbiadaaGreatDoor
