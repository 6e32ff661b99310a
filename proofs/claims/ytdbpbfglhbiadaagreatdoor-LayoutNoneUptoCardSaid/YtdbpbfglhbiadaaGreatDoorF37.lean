/- Tm13 Tm14 Tm15 -/
import Derived.Test.YtdbpbfglhbiadaaGreatDoorF00
import Derived.Test.YtdbpbfglhbiadaaGreatDoorF36
set_option maxHeartbeats 8000000
set_option maxRecDepth 100000
namespace Go.Proofs.YtdbpbfglhbiadaaGreatDoor
open Go Go.RowKit
noncomputable def Ue (t:TypeId):Option Ty:=List.lookup t [(9,.str),(3,tI),(4,.bool)]
noncomputable def C8:gb Tryz.prog:=ci Ue [⟨_,_,_,find_ok⟩] [⟨_,_,_,_,_,jy⟩]
noncomputable abbrev lfn:=Tryz.f65
abbrev stZ:List CS:=[.d .str,.d tI,.d tI,.d tI,.d (.list .str),.own (.st 3) 87,.zc (.st 4) (.st 10) 42,.d tI,.d tI,.d .bool,.d (.list .limb),.d (.list .limb),.d tI,.d .str,.own .str 9,.own (.st 7) 189,.own (.st 6) 188,.d tI,.d tI]
abbrev stO:List CS:=[.d .str,.d tI,.d tI,.d tI,.d (.list .str),.own (.st 3) 87,.zip (.st 4) (.st 10) 42 [.d .str,.own tI 3,.own tI 3],.d tI,.d tI,.d .bool,.d (.list .limb),.d (.list .limb),.d tI,.d .str,.own .str 9,.own (.st 7) 189,.own (.st 6) 188,.d tI,.d tI]
abbrev sZ:SS:=.box 118 stZ
abbrev sO:SS:=.box 118 stO
abbrev gB:=dZ stZ
abbrev ja:=dZ stO
abbrev ZL:SS:=.c (.own .bool 4)
noncomputable abbrev I1:Rg Tryz.prog lfn.ntmps:=yT (JG C8 lfn [0]) [(8,mD 0 6)] [(6,Oa 0 6 (.st 4) (.st 10)),(9,U0 0 6),(14,mD 0 6),(16,mD 0 6),(25,mD 0 6)]
abbrev ZcC:=Nat×List ai×List ByteArray
abbrev ZoC:=Nat×List ai×(ByteArray×List Int×List Int×Unit)×List ByteArray
def ja.z (x:ja):ZoC:=x.2.2.2.2.2.2.1
def ja.setZ (x:ja) (z:ZoC):ja:=(x.1,x.2.1,x.2.2.1,x.2.2.2.1,x.2.2.2.2.1,x.2.2.2.2.2.1,z,x.2.2.2.2.2.2.2.1,x.2.2.2.2.2.2.2.2.1,x.2.2.2.2.2.2.2.2.2.1,x.2.2.2.2.2.2.2.2.2.2.1,x.2.2.2.2.2.2.2.2.2.2.2.1,x.2.2.2.2.2.2.2.2.2.2.2.2.1,x.2.2.2.2.2.2.2.2.2.2.2.2.2.1,x.2.2.2.2.2.2.2.2.2.2.2.2.2.2.1,x.2.2.2.2.2.2.2.2.2.2.2.2.2.2.2.1,x.2.2.2.2.2.2.2.2.2.2.2.2.2.2.2.2.1,x.2.2.2.2.2.2.2.2.2.2.2.2.2.2.2.2.2.1,x.2.2.2.2.2.2.2.2.2.2.2.2.2.2.2.2.2.2.1,())
def ja.prec (x:ja):List ByteArray:=x.2.2.2.2.1
def ja.rl (x:ja):List (Int×Int):=x.2.2.2.2.2.2.2.2.2.2.2.2.2.2.2.1
def ja.ln (x:ja) (i:Int):Int×Int:=x.rl.reverse.getD i.toNat (0,0)
def ja.done (x:ja):List ai:=x.z.2.1
def ja.ps (x:ja):List Int:=x.z.2.2.1.2.1
def ja.cs (x:ja):List Int:=x.z.2.2.1.2.2.1
def ja.nm (x:ja):ByteArray:=x.z.2.2.1.1
def ja.withP (x:ja) (ps cs:List Int):ja:=x.setZ (x.z.1,x.z.2.1,(x.z.2.2.1.1,ps,cs,()),x.z.2.2.2)
def gB.z (x:gB):ZcC:=x.2.2.2.2.2.2.1
def gB.setZ (x:gB) (z:ZcC):gB:=(x.1,x.2.1,x.2.2.1,x.2.2.2.1,x.2.2.2.2.1,x.2.2.2.2.2.1,z,x.2.2.2.2.2.2.2.1,x.2.2.2.2.2.2.2.2.1,x.2.2.2.2.2.2.2.2.2.1,x.2.2.2.2.2.2.2.2.2.2.1,x.2.2.2.2.2.2.2.2.2.2.2.1,x.2.2.2.2.2.2.2.2.2.2.2.2.1,x.2.2.2.2.2.2.2.2.2.2.2.2.2.1,x.2.2.2.2.2.2.2.2.2.2.2.2.2.2.1,x.2.2.2.2.2.2.2.2.2.2.2.2.2.2.2.1,x.2.2.2.2.2.2.2.2.2.2.2.2.2.2.2.2.1,x.2.2.2.2.2.2.2.2.2.2.2.2.2.2.2.2.2.1,x.2.2.2.2.2.2.2.2.2.2.2.2.2.2.2.2.2.2.1,())
def gB.setF (x:gB) (p:Int×Int):gB:=(x.1,x.2.1,x.2.2.1,x.2.2.2.1,x.2.2.2.2.1,x.2.2.2.2.2.1,x.2.2.2.2.2.2.1,x.2.2.2.2.2.2.2.1,x.2.2.2.2.2.2.2.2.1,x.2.2.2.2.2.2.2.2.2.1,x.2.2.2.2.2.2.2.2.2.2.1,x.2.2.2.2.2.2.2.2.2.2.2.1,x.2.2.2.2.2.2.2.2.2.2.2.2.1,x.2.2.2.2.2.2.2.2.2.2.2.2.2.1,x.2.2.2.2.2.2.2.2.2.2.2.2.2.2.1,x.2.2.2.2.2.2.2.2.2.2.2.2.2.2.2.1,x.2.2.2.2.2.2.2.2.2.2.2.2.2.2.2.2.1,p.1,p.2,())
def gB.f (x:gB):Int×Int:=(x.2.2.2.2.2.2.2.2.2.2.2.2.2.2.2.2.2.1,x.2.2.2.2.2.2.2.2.2.2.2.2.2.2.2.2.2.2.1)
def gB.note (x:gB) (no line:Int):gB:=x.setF (nt x.f no line)
def ja.cl (x:ja):gB:=(x.1,x.2.1,x.2.2.1,x.2.2.2.1,x.2.2.2.2.1,x.2.2.2.2.2.1,(x.z.1,x.z.2.1++[⟨x.nm,x.ps.reverse,x.cs.reverse⟩],x.z.2.2.2),x.2.2.2.2.2.2.2.1,x.2.2.2.2.2.2.2.2.1,x.2.2.2.2.2.2.2.2.2.1,x.2.2.2.2.2.2.2.2.2.2.1,x.2.2.2.2.2.2.2.2.2.2.2.1,x.2.2.2.2.2.2.2.2.2.2.2.2.1,x.2.2.2.2.2.2.2.2.2.2.2.2.2.1,x.2.2.2.2.2.2.2.2.2.2.2.2.2.2.1,x.2.2.2.2.2.2.2.2.2.2.2.2.2.2.2.1,x.2.2.2.2.2.2.2.2.2.2.2.2.2.2.2.2.1,x.2.2.2.2.2.2.2.2.2.2.2.2.2.2.2.2.2.1,x.2.2.2.2.2.2.2.2.2.2.2.2.2.2.2.2.2.2.1,())
def gB.op (x:gB):ja:=(x.1,x.2.1,x.2.2.1,x.2.2.2.1,x.2.2.2.2.1,x.2.2.2.2.2.1,(x.z.1,x.z.2.1,(x.z.2.2.getD 0 ⟨#[]⟩,[],[],()),x.z.2.2.drop 1),x.2.2.2.2.2.2.2.1,x.2.2.2.2.2.2.2.2.1,x.2.2.2.2.2.2.2.2.2.1,x.2.2.2.2.2.2.2.2.2.2.1,x.2.2.2.2.2.2.2.2.2.2.2.1,x.2.2.2.2.2.2.2.2.2.2.2.2.1,x.2.2.2.2.2.2.2.2.2.2.2.2.2.1,x.2.2.2.2.2.2.2.2.2.2.2.2.2.2.1,x.2.2.2.2.2.2.2.2.2.2.2.2.2.2.2.1,x.2.2.2.2.2.2.2.2.2.2.2.2.2.2.2.2.1,x.2.2.2.2.2.2.2.2.2.2.2.2.2.2.2.2.2.1,x.2.2.2.2.2.2.2.2.2.2.2.2.2.2.2.2.2.2.1,())
def aM.zb (x:aM):gB:=(x.1,x.2.1,x.2.2.1,x.2.2.2.1,x.2.2.2.2.1,x.2.2.2.2.2.1,(x.rs.length,[],x.rs.reverse),x.2.2.2.2.2.2.2.1,x.2.2.2.2.2.2.2.2.1,x.2.2.2.2.2.2.2.2.2.1,x.2.2.2.2.2.2.2.2.2.2.1,x.2.2.2.2.2.2.2.2.2.2.2.1,x.2.2.2.2.2.2.2.2.2.2.2.2.1,x.2.2.2.2.2.2.2.2.2.2.2.2.2.1,x.2.2.2.2.2.2.2.2.2.2.2.2.2.2.1,x.2.2.2.2.2.2.2.2.2.2.2.2.2.2.2.1,x.2.2.2.2.2.2.2.2.2.2.2.2.2.2.2.2.1,x.2.2.2.2.2.2.2.2.2.2.2.2.2.2.2.2.2.1,x.2.2.2.2.2.2.2.2.2.2.2.2.2.2.2.2.2.2.1,())
section
variable (sl:List (Nat×SS)) {L:Type} (back:ja->List Bool->L) (out:ja->L) (ret:gB->L) (x:ja) (us:List Bool) (i:Int) (l:List ByteArray) (n j:Int)
def lkE (no line:Int):T L:=.nd (0<=i/\i<x.rl.length) (.nd ((0:Int)≠no) (.lf (ret (x.cl.note no line))))
def WG:T L:=.br (decide (j<n)) (.nd (0<=j/\j<l.length) (.br (decide (Lib.idxOfS x.prec (l.getD j.toNat ⟨#[]⟩)<0)) (lkE ret x i 2 (x.ln i).1)
 (.nd (0<=Lib.idxOfS x.prec (l.getD j.toNat ⟨#[]⟩)/\Lib.idxOfS x.prec (l.getD j.toNat ⟨#[]⟩)<us.length) (.br (us.reverse.getD (Lib.idxOfS x.prec (l.getD j.toNat ⟨#[]⟩)).toNat false) (lkE ret x i 3 (x.ln i).1)
 (.nd (0<=Lib.idxOfS x.prec (l.getD j.toNat ⟨#[]⟩)/\Lib.idxOfS x.prec (l.getD j.toNat ⟨#[]⟩)<us.length) (.nd (i=x.done.length) (.nd ((x.ps.length+1)*9<=140737488355328) (.nd (i=x.done.length) (.nd (bX (j+1))
  (.lf (back (x.withP (Lib.idxOfS x.prec (l.getD j.toNat ⟨#[]⟩)::x.ps) x.cs) (us.reverse.set (Lib.idxOfS x.prec (l.getD j.toNat ⟨#[]⟩)).toNat true).reverse))))))))))) (.lf (out x))
def WF (cn:List ByteArray):T L:=.br (decide (j<n)) (.nd (0<=j/\j<l.length) (.br (decide (Lib.idxOfS cn.reverse (l.getD j.toNat ⟨#[]⟩)<0)) (lkE ret x i 2 (x.ln i).2)
 (.nd (i=x.done.length) (.nd ((x.cs.length+1)*9<=140737488355328) (.nd (i=x.done.length) (.nd (bX (j+1)) (.lf (back (x.withP x.ps (Lib.idxOfS cn.reverse (l.getD j.toNat ⟨#[]⟩)::x.cs)) us)))))))) (.lf (out x))
end
abbrev ZW:List (Nat×SS):=[(0,sO),(2,PH),(4,ZL),(5,sI),(58,sL),(59,sI),(60,sI)]
abbrev l3L:List (Nat×SS):=[(0,sO),(2,PH),(4,ZL),(5,sI),(128,sL),(129,sI),(130,sI)]
abbrev MQ:List (Nat×SS):=[(0,sO),(2,PH),(4,ZL),(5,sI)]
def W5 (cn:List ByteArray) (i:Int) (l:List ByteArray) (n j:Int) (x:ja) (us:List Bool):LE ZW MQ [(0,sZ)]:=.back (x,cn,us,i,l,n,j+1,())
def Gm (cn:List ByteArray) (us:List Bool) (i:Int) (x:ja):LE ZW MQ [(0,sZ)]:=.out (x,cn,us,i,())
def Bi (x:gB):LE ZW MQ [(0,sZ)]:=.ret (.tup []) (x,())
def W4 (cn:List ByteArray) (i:Int) (l:List ByteArray) (n j:Int) (x:ja) (us:List Bool):LE l3L MQ [(0,sZ)]:=.back (x,cn,us,i,l,n,j+1,())
def MP (cn:List ByteArray) (us:List Bool) (i:Int) (x:ja):LE l3L MQ [(0,sZ)]:=.out (x,cn,us,i,())
def MO (x:gB):LE l3L MQ [(0,sZ)]:=.ret (.tup []) (x,())
def bK (prec:List ByteArray) (line:Int):List ByteArray->List Bool->List Int->(List Bool×List Int)×dH
 | [],u,a=>((u,a),⟨0,0⟩)
 | s::l,u,a=>if Lib.idxOfS prec s<0 then((u,a),⟨2,line⟩) else if u.getD (Lib.idxOfS prec s).toNat false=true then((u,a),⟨3,line⟩) else bK prec line l (u.set (Lib.idxOfS prec s).toNat true) (a++[Lib.idxOfS prec s])
def dF (cn:List ByteArray) (line:Int):List ByteArray->List Int->List Int×dH
 | [],a=>(a,⟨0,0⟩)
 | s::l,a=>if Lib.idxOfS cn s<0 then(a,⟨2,line⟩) else dF cn line l (a++[Lib.idxOfS cn s])
def ZU {L:Type} (out:ja->List Bool->L) (ret:gB->L) (x:ja) (u:List Bool) (ps cs:List Int) (e:dH):T L:=.br (decide (e.no=0)) (.lf (out (x.withP ps.reverse cs.reverse) u.reverse)) (.lf (ret ((x.withP ps.reverse cs.reverse).cl.note e.no e.line)))
def ZT (x:ja) (us:List Bool) (a:List Int) (i:Int) (l:List ByteArray) (n j:Int):Prop:=0<=j/\j<=l.length/\n=l.length/\i=x.done.length/\i<x.rl.length/\us.length=x.prec.length/\(a.length:Int)=j/\l.length<=1099511627776
theorem Jf (l:List ByteArray) (s:ByteArray):Lib.idxOfS l s<0\/(0<=Lib.idxOfS l s/\Lib.idxOfS l s<l.length):=by
 have:∀(l:List ByteArray) (i:Nat),Lib.idxFromS l s i<0\/(0<=Lib.idxFromS l s i/\Lib.idxFromS l s i<i+l.length):=by
  intro l;induction l with
  | nil=>intro i;exact .inl (by show(-1:Int)<0;omega)
  | cons x l ih=>
   intro i;unfold Lib.idxFromS;split
   ·exact .inr ⟨by omega,by rw[aar];omega⟩
   ·rcases ih (i+1) with h|h
    ·exact .inl h
    ·exact .inr ⟨h.1,by rw[aar];omega⟩
 have:=this l 0;unfold Lib.idxOfS;omega
theorem MB:eD I1 2 4 ZW MQ [(0,sZ)] λ((x:ja),(cn:List ByteArray),(us:List Bool),(i:Int),(l:List ByteArray),(n:Int),(j:Int),_)=>
 .nd (ZT x us x.ps i l n j) (ZU (λx u=>Gm cn u i x) Bi x (bK x.prec (x.ln i).1 (l.drop j.toNat) us.reverse x.ps.reverse).1.1 (bK x.prec (x.ln i).1 (l.drop j.toNat) us.reverse x.ps.reverse).1.2 x.cs.reverse (bK x.prec (x.ln i).1 (l.drop j.toNat) us.reverse x.ps.reverse).2):=by
  refine eI _ (nL _ _) 99 2 4 ZW MQ [(0,sZ)] (λ((x:ja),(cn:List ByteArray),(us:List Bool),(i:Int),(l:List ByteArray),(n:Int),(j:Int),_)=>WG (W5 cn i l n j) (Gm cn us i) Bi x us i l n j)
   (λ(_,_,_,_,(l:List ByteArray),_,(j:Int),_)=>l.length-j.toNat) ?_
  rintro⟨(x:ja),(cn:List ByteArray),(us:List Bool),(i:Int),(l:List ByteArray),(n:Int),(j:Int),_⟩ r _ ⟨⟨h0,h1,rfl,rfl,h4,h5,h6,h7⟩,hr⟩;have hr:(ZU (λx u=>Gm cn u _ x) Bi x _ _ _ _).hit r:=hr;obtain⟨k,rfl⟩:∃k:Nat,j=k:=⟨j.toNat,by omega⟩;rw[aae] at hr;show∃q,(WG _ _ _ x us _ l l.length k).hit q/\_;have Nh:x.withP x.ps.reverse.reverse x.cs.reverse.reverse=x:=by rw[aag,aag];rfl
  unfold WG;by_cases hk:k<l.length
  ·rw[getD_drop (⟨#[]⟩:ByteArray) hk,bK] at hr;rw[aae];have hE:∀no line:Int,no≠0->(ZU (λx u=>Gm cn u x.done.length x) Bi x us.reverse x.ps.reverse x.cs.reverse ⟨no,line⟩).hit r->(lkE (L:=LE ZW MQ [(0,sZ)]) Bi x x.done.length no line).hit r/\(match r with|.back x'=>False|q=>q=r):=λno line hn h=>by
    have h:=h.2 (decide_eq_false hn);rw[Nh] at h;obtain rfl:=h;exact⟨⟨⟨by omega,h4⟩,acj hn,rfl⟩,rfl⟩
   split at hr
   ·rename_i hlt;obtain⟨q1,q2⟩:=hE 2 _ (by decide) hr;refine⟨r,aH (decide_eq_true (by omega)) ⟨⟨by omega,by omega⟩,aH (decide_eq_true hlt) q1⟩,?_⟩
    revert q2;cases r<;>intro q2<;>first|exact q2|exact q2.elim
   ·rename_i hge;have hx:=(Jf x.prec (l.getD k ⟨#[]⟩)).resolve_left hge;split at hr
    ·rename_i hu;obtain⟨q1,q2⟩:=hE 3 _ (by decide) hr;refine⟨r,aH (decide_eq_true (by omega)) ⟨⟨by omega,by omega⟩,aP (decide_eq_false hge) ⟨⟨hx.1,by omega⟩,aH hu q1⟩⟩,?_⟩
     revert q2;cases r<;>intro q2<;>first|exact q2|exact q2.elim
    ·rename_i hu;refine⟨_,aH (decide_eq_true (by omega)) ⟨⟨by omega,by omega⟩,aP (decide_eq_false hge) ⟨⟨hx.1,by omega⟩,aP (by simpa using hu) ⟨⟨hx.1,by omega⟩,rfl,by omega,rfl,⟨by omega,by omega⟩,rfl⟩⟩⟩,?_,?_⟩
     ·show l.length-(k+1)<l.length-k;omega
     ·refine⟨⟨by omega,by omega,rfl,rfl,h4,?_,?_,h7⟩,?_⟩
      ·rw[aak,aaJ,aak];exact h5
      ·show((x.ps.length+1:Nat):Int)=(k:Int)+1;omega
      ·show(ZU _ _ _ _ _ _ _).hit r;rw[aag];have e:(Lib.idxOfS x.prec (l.getD k ⟨#[]⟩)::x.ps).reverse=x.ps.reverse++[Lib.idxOfS x.prec (l.getD k ⟨#[]⟩)]:=by simp
       rw[<-e] at hr;exact hr
  ·rw[aaq (by omega),bK] at hr;have h:=hr.1 (decide_eq_true rfl);refine⟨r,aP (decide_eq_false (by omega)) ?_,?_⟩
   ·rw[Nh,aag] at h;exact h
   ·obtain rfl:=h;rfl
theorem MA:eD I1 3 6 l3L MQ [(0,sZ)] λ((x:ja),(cn:List ByteArray),(us:List Bool),(i:Int),(l:List ByteArray),(n:Int),(j:Int),_)=>
 .nd (ZT x us x.cs i l n j) (ZU (λx u=>MP cn u i x) MO x us.reverse x.ps.reverse (dF cn.reverse (x.ln i).2 (l.drop j.toNat) x.cs.reverse).1 (dF cn.reverse (x.ln i).2 (l.drop j.toNat) x.cs.reverse).2):=by
  refine eI _ (nL _ _) 99 3 6 l3L MQ [(0,sZ)] (λ((x:ja),(cn:List ByteArray),(us:List Bool),(i:Int),(l:List ByteArray),(n:Int),(j:Int),_)=>WF (W4 cn i l n j) (MP cn us i) MO x us i l n j cn)
   (λ(_,_,_,_,(l:List ByteArray),_,(j:Int),_)=>l.length-j.toNat) ?_
  rintro⟨(x:ja),(cn:List ByteArray),(us:List Bool),(i:Int),(l:List ByteArray),(n:Int),(j:Int),_⟩ r _ ⟨⟨h0,h1,rfl,rfl,h4,h5,h6,h7⟩,hr⟩;have hr:(ZU (λx u=>MP cn u _ x) MO x _ _ _ _).hit r:=hr;obtain⟨k,rfl⟩:∃k:Nat,j=k:=⟨j.toNat,by omega⟩;rw[aae] at hr;show∃q,(WF _ _ _ x us _ l l.length k cn).hit q/\_;have Nh:x.withP x.ps.reverse.reverse x.cs.reverse.reverse=x:=by rw[aag,aag];rfl
  unfold WF;by_cases hk:k<l.length
  ·rw[getD_drop (⟨#[]⟩:ByteArray) hk,dF] at hr;rw[aae];split at hr
   ·rename_i hlt;have h:=hr.2 (decide_eq_false (by show¬(2:Int)=0;decide));rw[Nh] at h;obtain rfl:=h;exact⟨_,aH (decide_eq_true (by omega)) ⟨⟨by omega,by omega⟩,aH (decide_eq_true hlt) ⟨⟨by omega,h4⟩,by decide,rfl⟩⟩,rfl⟩
   ·rename_i hge;refine⟨_,aH (decide_eq_true (by omega)) ⟨⟨by omega,by omega⟩,aP (decide_eq_false hge) ⟨rfl,by omega,rfl,⟨by omega,by omega⟩,rfl⟩⟩,?_,?_⟩
    ·show l.length-(k+1)<l.length-k;omega
    ·refine⟨⟨by omega,by omega,rfl,rfl,h4,h5,?_,h7⟩,?_⟩
     ·show((x.cs.length+1:Nat):Int)=(k:Int)+1;omega
     ·have e:(Lib.idxOfS cn.reverse (l.getD k ⟨#[]⟩)::x.cs).reverse=x.cs.reverse++[Lib.idxOfS cn.reverse (l.getD k ⟨#[]⟩)]:=by simp
      rw[<-e] at hr;exact hr
  ·rw[aaq (by omega),dF] at hr;have h:=hr.1 (decide_eq_true rfl);refine⟨r,aP (decide_eq_false (by omega)) ?_,?_⟩
   ·rw[Nh,aag] at h;exact h
   ·obtain rfl:=h;rfl
abbrev l0L:List (Nat×SS):=[(0,sT),(2,PH),(3,sI)]
abbrev l0O:List (Nat×SS):=[(0,sT),(2,PH)]
def W6 (x:aM) (cn:List ByteArray) (i:Int):LE l0L l0O [(0,sZ)]:=.back (x,cn,i,())
def MS (x:aM) (cn:List ByteArray):LE l0L l0O [(0,sZ)]:=.out (x,cn,())
theorem MD:eD I1 0 0 l0L l0O [(0,sZ)] λ((x:aM),(cn:List ByteArray),(i:Int),_)=>.nd (0<=i/\i<=x.cont.length/\(cn.length:Int)=i/\x.cont.length<=1099511627776) (.lf (MS x (((x.cont.drop i.toNat).map (·.name)).reverse++cn))):=by
 refine eI _ (nL _ _) 99 0 0 l0L l0O [(0,sZ)] (λ((x:aM),(cn:List ByteArray),(i:Int),_)=>.br (decide (i<x.rc.length)) (.nd (0<=i/\i<x.rc.length) (.nd ((cn.length+1)*17<=140737488355328) (.nd (bX (i+1)) (.lf (W6 x ((x.cont.getD i.toNat ae.zero).name::cn) (i+1)))))) (.lf (MS x cn)))
  (λ((x:aM),_,(i:Int),_)=>x.cont.length-i.toNat) ?_
 rintro⟨(x:aM),(cn:List ByteArray),(i:Int),_⟩ r _ ⟨⟨h0,h1,h2,h3⟩,hr⟩;obtain rfl:=hr;obtain⟨k,rfl⟩:∃k:Nat,i=k:=⟨i.toNat,by omega⟩;have hl:x.rc.length=x.cont.length:=(aak (α:=ae)).symm;show∃q,(T.br (decide ((k:Int)<x.rc.length)) _ _).hit q/\_;rw[hl,aae];by_cases hk:k<x.cont.length
 ·refine⟨_,aH (decide_eq_true (by omega)) ⟨⟨by omega,by omega⟩,by omega,⟨by omega,by omega⟩,rfl⟩,?_,⟨by omega,by omega,?_,h3⟩,?_⟩
  ·show x.cont.length-(k+1)<x.cont.length-k;omega
  ·rw[aar];omega
  ·show MS x (((x.cont.drop (k+1)).map (·.name)).reverse++((x.cont.getD k ae.zero).name::cn))=_;rw[getD_drop ae.zero hk,abH,abc,aaR];rfl
 ·refine⟨_,aP (decide_eq_false (by omega)) rfl,?_⟩;rw[aaq (by omega)];rfl
abbrev l4L:List (Nat×SS):=[(0,sZ),(4,ZL),(12,sI)]
abbrev l4O:List (Nat×SS):=[(0,sZ)]
def MN (x:gB) (us:List Bool) (i:Int):LE l4L l4O [(0,sZ)]:=.back (x,us,i,())
def Bh (x:gB):LE l4L l4O [(0,sZ)]:=.out (x,())
theorem QZ {x:gB} {c d line ug:Int} (hc:c≠0):(x.note c line).note d ug=x.note c line:=congrArg x.setF (aby hc)
theorem Q0 {x:gB} (line:Int):x.note 0 line=x:=congrArg x.setF (L5 line)
theorem Mz:eD I1 4 8 l4L l4O [(0,sZ)] λ((x:gB),(us:List Bool),(i:Int),_)=>.nd (0<=i/\i<=us.length) (.lf (Bh (x.note (if(us.reverse.drop i.toNat).contains false then 6 else 0) 0))):=by
 refine eI _ (nL _ _) 99 4 8 l4L l4O [(0,sZ)] (λ((x:gB),(us:List Bool),(i:Int),_)=>.br (decide (i<us.length)) (.nd (0<=i/\i<us.length) (.br (!(us.reverse.getD i.toNat false)) (.nd ((0:Int)≠6) (.nd (bX (i+1)) (.lf (MN (x.note 6 0) us (i+1))))) (.nd (bX (i+1)) (.lf (MN x us (i+1)))))) (.lf (Bh x)))
  (λ(_,(us:List Bool),(i:Int),_)=>us.length-i.toNat) ?_
 rintro⟨(x:gB),(us:List Bool),(i:Int),_⟩ r pZ ⟨⟨h0,h1⟩,hr⟩;obtain rfl:=hr;have hl:us.length<=9223372036854775807:=pZ.2.1;obtain⟨k,rfl⟩:∃k:Nat,i=k:=⟨i.toNat,by omega⟩;rw[aae];by_cases hk:k<us.length
 ·have hd:us.length-(k+1)<us.length-k:=by omega
  have dI:bX ((k:Int)+1):=⟨by omega,by omega⟩;have hx:=getD_drop (xs:=us.reverse) (i:=k) false (by rw[aak];exact hk);rw[hx];cases hb:us.reverse.getD k false with
  | false=>
   refine⟨_,aH (decide_eq_true (by omega)) ⟨⟨by omega,by omega⟩,aH (by rw[aae,hb];rfl) ⟨by decide,dI,rfl⟩⟩,hd,⟨by omega,by omega⟩,?_⟩;show Bh ((x.note 6 0).note _ 0)=_;rw[QZ (by decide)];simp
  | true=>
   refine⟨_,aH (decide_eq_true (by omega)) ⟨⟨by omega,by omega⟩,aP (by rw[aae,hb];rfl) ⟨dI,rfl⟩⟩,hd,⟨by omega,by omega⟩,?_⟩;show Bh (x.note (if(us.reverse.drop (k+1)).contains false then 6 else 0) 0)=_;simp
 ·refine⟨_,aP (decide_eq_false (by omega)) rfl,?_⟩;rw[aaq (by rw[aak];omega)];exact congrArg Bh (Q0 _).symm
abbrev PM:List (Nat×SS):=[(0,sZ),(2,PH),(4,ZL),(5,sI)]
abbrev PL:List (Nat×SS):=[(0,sZ),(4,ZL)]
def MR (cn:List ByteArray) (i:Int) (x:gB) (us:List Bool):LE PM PL [(0,sZ)]:=.back (x,cn,us,i+1,())
def Gn (x:gB) (us:List Bool):LE PM PL [(0,sZ)]:=.out (x,us,())
def um (x:gB):LE PM PL [(0,sZ)]:=.ret (.tup []) (x,())
def gB.rm (x:gB):List (List ByteArray×List ByteArray):=x.2.2.2.2.2.2.2.2.2.2.2.2.2.2.2.2.1
def ja.nmAt (x:ja) (i:Int):List ByteArray×List ByteArray:=List.getD (List.reverse (α:=List ByteArray×List ByteArray) x.2.2.2.2.2.2.2.2.2.2.2.2.2.2.2.2.1) i.toNat ([],[])
def ja.rm (x:ja):List (List ByteArray×List ByteArray):=x.2.2.2.2.2.2.2.2.2.2.2.2.2.2.2.2.1
def Ru {L:Type} (out:ja->List Bool->T L) (ret:gB->L) (x:ja) (u:List Bool) (ps cs:List Int) (e:dH):T L:=.br (decide (e.no=0)) (out (x.withP ps.reverse cs.reverse) u.reverse) (.lf (ret ((x.withP ps.reverse cs.reverse).cl.note e.no e.line)))
section
variable (cn:List ByteArray) (i:Int)
def abS (y:ja) (us:List Bool):T (LE PM PL [(0,sZ)]):=.nd (bX (i+1)) (.lf (MR cn i y.cl us))
def abT (y:ja) (us:List Bool):T (LE PM PL [(0,sZ)]):=.nd (0<=i/\i<y.rm.length) (.nd (ZT y us y.cs i (y.nmAt i).2 (y.nmAt i).2.length 0) (Ru (abS cn i) um y us.reverse y.ps.reverse (dF cn.reverse (y.ln i).2 ((y.nmAt i).2.drop (Int.toNat 0)) y.cs.reverse).1 (dF cn.reverse (y.ln i).2 ((y.nmAt i).2.drop (Int.toNat 0)) y.cs.reverse).2))
def agV (y:ja) (us:List Bool):T (LE PM PL [(0,sZ)]):=.nd (ZT y us y.ps i (y.nmAt i).1 (y.nmAt i).1.length 0) (Ru (abT cn i) um y (bK y.prec (y.ln i).1 ((y.nmAt i).1.drop (Int.toNat 0)) us.reverse y.ps.reverse).1.1 (bK y.prec (y.ln i).1 ((y.nmAt i).1.drop (Int.toNat 0)) us.reverse y.ps.reverse).1.2 y.cs.reverse (bK y.prec (y.ln i).1 ((y.nmAt i).1.drop (Int.toNat 0)) us.reverse y.ps.reverse).2)
def Mx (x:gB) (us:List Bool):T (LE PM PL [(0,sZ)]):=.br (decide (i<x.rm.length)) (.nd (0<=i/\i<x.rm.length) (.nd (x.z.2.1.length<x.z.1) (agV cn i x.op us))) (.lf (Gn x us))
end
def om (prec cn:List ByteArray):List (List ByteArray×List ByteArray)->List (Int×Int)->List ai->List ByteArray->List Bool->(List ai×List ByteArray×List Bool)×dH
 | [],_,done,rest,u=>((done,rest,u),⟨0,0⟩)
 | v::vs,ls,done,rest,u=>
  if(bK prec (ls.getD 0 (0,0)).1 v.1 u []).2.no=0 then
   if(dF cn (ls.getD 0 (0,0)).2 v.2 []).2.no=0 then om prec cn vs (ls.drop 1) (done++[⟨rest.getD 0 ⟨#[]⟩,(bK prec (ls.getD 0 (0,0)).1 v.1 u []).1.2,(dF cn (ls.getD 0 (0,0)).2 v.2 []).1⟩]) (rest.drop 1) (bK prec (ls.getD 0 (0,0)).1 v.1 u []).1.1
   else((done++[⟨rest.getD 0 ⟨#[]⟩,(bK prec (ls.getD 0 (0,0)).1 v.1 u []).1.2,(dF cn (ls.getD 0 (0,0)).2 v.2 []).1⟩],rest.drop 1,(bK prec (ls.getD 0 (0,0)).1 v.1 u []).1.1),(dF cn (ls.getD 0 (0,0)).2 v.2 []).2)
  else((done++[⟨rest.getD 0 ⟨#[]⟩,(bK prec (ls.getD 0 (0,0)).1 v.1 u []).1.2,[]⟩],rest.drop 1,(bK prec (ls.getD 0 (0,0)).1 v.1 u []).1.1),(bK prec (ls.getD 0 (0,0)).1 v.1 u []).2)
def gB.rl (x:gB):List (Int×Int):=x.2.2.2.2.2.2.2.2.2.2.2.2.2.2.2.1
def gB.prec (x:gB):List ByteArray:=x.2.2.2.2.1
def gB.go (x:gB) (cn:List ByteArray) (us:List Bool) (i:Int):(List ai×List ByteArray×List Bool)×dH:=om x.prec cn.reverse (x.rm.reverse.drop i.toNat) (x.rl.reverse.drop i.toNat) x.z.2.1 x.z.2.2 us.reverse
def gB.withZ (x:gB) (d:List ai) (r:List ByteArray):gB:=x.setZ (x.z.1,d,r)
def WI (x:gB) (g:(List ai×List ByteArray×List Bool)×dH):T (LE PM PL [(0,sZ)]):=.br (decide (g.2.no=0)) (.lf (Gn (x.withZ g.1.1 g.1.2.1) g.1.2.2.reverse)) (.lf (um ((x.withZ g.1.1 g.1.2.1).note g.2.no g.2.line)))
def abR (x:gB) (us:List Bool) (i:Int):Prop:=0<=i/\i<=x.rm.length/\i=x.z.2.1.length/\x.rl.length=x.rm.length/\x.z.1=x.rm.length/\us.length=x.prec.length/\x.rm.length<=1099511627776/\∀p∈x.rm.reverse,p.1.length<=1099511627776/\p.2.length<=1099511627776
theorem uc (prec:List ByteArray) (line:Int):∀(l:List ByteArray) (u:List Bool) (a:List Int),(bK prec line l u a).1.1.length=u.length
 | [],_,_=>rfl
 | s::l,u,a=>by
  unfold bK;split
  ·rfl
  ·split
   ·rfl
   ·rw[uc];exact aaJ
theorem MC:eD I1 1 2 PM PL [(0,sZ)] λ((x:gB),(cn:List ByteArray),(us:List Bool),(i:Int),_)=>.nd (abR x us i) (WI x (x.go cn us i)):=by
 refine eI _ (((nL _ _).add 2 _ MB).add 3 _ MA) 99 1 2 PM PL [(0,sZ)] (λ((x:gB),(cn:List ByteArray),(us:List Bool),(i:Int),_)=>Mx cn i x us)
  (λ((x:gB),_,_,(i:Int),_)=>x.rm.length-i.toNat) ?_
 rintro⟨(x:gB),(cn:List ByteArray),(us:List Bool),(i:Int),_⟩ r _ ⟨⟨h0,h1,h2,h3,h4,h5,h6,h7⟩,hr⟩;obtain⟨k,rfl⟩:∃k:Nat,i=k:=⟨i.toNat,by omega⟩;show∃q,(Mx cn k x us).hit q/\_;have hr:(WI x (x.go cn us k)).hit r:=hr;unfold Mx;have xu:x.rm.reverse.length=x.rm.length:=aak;have PY:x.rl.reverse.length=x.rl.length:=aak;by_cases hk:k<x.rm.length
 ·unfold gB.go at hr;rw[aae,getD_drop (([],[]):List ByteArray×List ByteArray) (by rw[xu];exact hk),om] at hr;have hm:=h7 (x.rm.reverse.getD k ([],[])) (by rw[aac,aaa (by rw[xu];exact hk)];exact aaG _);have Kl:x.op.nmAt k=x.rm.reverse.getD k ([],[]):=rfl;have yV:(x.rl.reverse.drop k).getD 0 (0,0)=x.op.ln k:=by
   show _=x.rl.reverse.getD k (0,0);rw[aac,acc,aac,adX]
  rw[yV,<-Kl] at hr;rw[<-Kl] at hm;have qD:=uc x.prec (x.op.ln k).1 (x.op.nmAt k).1 us.reverse [];have acD:ZT x.op us x.op.ps k (x.op.nmAt k).1 (x.op.nmAt k).1.length 0:=⟨by omega,by omega,rfl,h2,by show(k:Int)<x.rl.length;omega,h5,rfl,hm.1⟩;have hC:∀{q},(Ru (abT cn k) um x.op (bK x.prec (x.op.ln k).1 (x.op.nmAt k).1 us.reverse []).1.1 (bK x.prec (x.op.ln k).1 (x.op.nmAt k).1 us.reverse []).1.2 [] (bK x.prec (x.op.ln k).1 (x.op.nmAt k).1 us.reverse []).2).hit q->(Mx cn k x us).hit q:=λh=>aH (decide_eq_true (by omega)) ⟨⟨by omega,by omega⟩,by omega,acD,h⟩;generalize bK x.prec (x.op.ln k).1 (x.op.nmAt k).1 us.reverse []=p at*;obtain⟨⟨u,ps⟩,e⟩:=p;simp only at hr hC qD;by_cases he:e.no=0
  ·rw[if_pos he] at hr;have acC:ZT (x.op.withP ps.reverse [].reverse) u.reverse [] k (x.op.nmAt k).2 (x.op.nmAt k).2.length 0:=⟨by omega,by omega,rfl,h2,by show(k:Int)<x.rl.length;omega,by rw[aak,qD,aak];exact h5,rfl,hm.2⟩;have hD:∀{q},(Ru (abS cn k) um (x.op.withP ps.reverse [].reverse) u.reverse.reverse ps.reverse.reverse (dF cn.reverse (x.op.ln k).2 (x.op.nmAt k).2 []).1 (dF cn.reverse (x.op.ln k).2 (x.op.nmAt k).2 []).2).hit q->(Mx cn k x us).hit q:=λh=>hC (aH (decide_eq_true he) ⟨⟨by omega,by show(k:Int)<x.rm.length;omega⟩,acC,h⟩);generalize dF cn.reverse (x.op.ln k).2 (x.op.nmAt k).2 []=c at*;obtain⟨cs,e2⟩:=c;simp only at hr hD;rw[aag,aag] at hD;by_cases Z9:e2.no=0
   ·rw[if_pos Z9] at hr;have rY:((x.op.withP ps.reverse [].reverse).withP ps.reverse cs.reverse).cl=x.withZ (x.z.2.1++[⟨x.z.2.2.getD 0 ⟨#[]⟩,ps,cs⟩]) (x.z.2.2.drop 1):=by
     show x.withZ (x.z.2.1++[⟨x.z.2.2.getD 0 ⟨#[]⟩,ps.reverse.reverse,cs.reverse.reverse⟩]) (x.z.2.2.drop 1)=_;rw[aag,aag]
    have XB:(x.op.nm:ByteArray)=x.z.2.2.getD 0 ⟨#[]⟩:=rfl;generalize x.z.2.2.getD 0 ⟨#[]⟩=nm at*;generalize hD3:x.z.2.1++[⟨nm,ps,cs⟩]=d at*;generalize x.z.2.2.drop 1=rest at*;refine⟨MR cn k (x.withZ d rest) u.reverse,hD (aH (decide_eq_true Z9) ⟨⟨by omega,by omega⟩,by rw[<-rY];rfl⟩),?_,?_,?_⟩
    ·show x.rm.length-(k+1)<x.rm.length-k;omega
    ·refine⟨by omega,by show((k:Int)+1)<=x.rm.length;omega,?_,h3,h4,?_,h6,h7⟩
     ·show((k:Int)+1)=(d.length:Nat);rw[<-hD3,aaj,aaA];omega
     ·show u.reverse.length=x.prec.length;rw[aak,qD,aak];exact h5
    ·have hgo:(x.withZ d rest).go cn u.reverse ((k:Int)+1)=om x.prec cn.reverse (x.rm.reverse.drop (k+1)) ((x.rl.reverse.drop k).drop 1) d rest u:=by
      rw[aei];show om x.prec cn.reverse (x.rm.reverse.drop (k+1)) (x.rl.reverse.drop (k+1)) d rest u.reverse.reverse=_;rw[aag]
     show(WI (x.withZ d rest) ((x.withZ d rest).go cn u.reverse ((k:Int)+1))).hit r;rw[hgo];exact hr
   ·rw[if_neg Z9] at hr;have h:=hr.2 (decide_eq_false Z9);refine⟨_,hD (aP (decide_eq_false Z9) rfl),?_⟩;rw[<-h];show um (gB.note (x.withZ (x.z.2.1++[⟨x.z.2.2.getD 0 ⟨#[]⟩,ps.reverse.reverse,cs.reverse.reverse⟩]) (x.z.2.2.drop 1)) e2.no e2.line)=_;rw[aag,aag]
  ·rw[if_neg he] at hr;have h:=hr.2 (decide_eq_false he);refine⟨_,hC (aP (decide_eq_false he) rfl),?_⟩;rw[<-h];show um (gB.note (x.withZ (x.z.2.1++[⟨x.z.2.2.getD 0 ⟨#[]⟩,ps.reverse.reverse,[]⟩]) (x.z.2.2.drop 1)) e.no e.line)=_;rw[aag]
 ·unfold gB.go at hr;rw[aae,aaq (by omega),om] at hr;have h:=hr.1 (decide_eq_true rfl);refine⟨_,aP (decide_eq_false (by omega)) rfl,?_⟩;rw[<-h];show Gn x us=Gn x us.reverse.reverse;rw[aag]
def aM.cn (x:aM):List ByteArray:=((x.cont.drop (Int.toNat 0)).map (·.name)).reverse++[]
def aM.prec (x:aM):List ByteArray:=x.2.2.2.2.1
def aM.us (x:aM):List Bool:=List.replicate (x.prec.length:Int).toNat false
def aM.go (x:aM):(List ai×List ByteArray×List Bool)×dH:=x.zb.go x.cn x.us 0
def wX (x:aM):gB:=if x.go.2.no=0 then(x.zb.withZ x.go.1.1 x.go.1.2.1).note (if x.go.1.2.2.contains false then 6 else 0) 0 else(x.zb.withZ x.go.1.1 x.go.1.2.1).note x.go.2.no x.go.2.line
abbrev SRZ:=XV×gB×Unit
def anZ (x:gB):SRZ:=(.tup [],x,())
def lkB (x:aM):T SRZ:=.nd ((0:Int)<=0/\(0:Int)<=x.cont.length/\(([]:List ByteArray).length:Int)=0/\x.cont.length<=1099511627776) (.nd ((0:Int)<=(x.prec.length:Int)/\(x.prec.length:Int)=x.prec.length/\(x.prec.length:Int)*(1+1)<=281474976710656)
 (.nd (abR x.zb x.us 0) (.br (decide (x.go.2.no=0)) (.nd ((0:Int)<=0/\(0:Int)<=x.go.1.2.2.reverse.length) (.lf (anZ ((x.zb.withZ x.go.1.1 x.go.1.2.1).note (if(x.go.1.2.2.reverse.reverse.drop (Int.toNat 0)).contains false then 6 else 0) 0)))) (.lf (anZ ((x.zb.withZ x.go.1.1 x.go.1.2.1).note x.go.2.no x.go.2.line))))))
def Gf (x:aM):Prop:=x.cont.length<=1099511627776/\x.prec.length<=1099511627776/\x.lines.length=x.names.length/\x.snm.length=x.names.length/\x.names.length<=1099511627776/\∀p∈x.names,p.1.length<=1099511627776/\p.2.length<=1099511627776
theorem MF:fk Tryz.prog 65 [0] [(0,sT)] [(0,sZ)] λ((x:aM),_)=>.nd (Gf x) (.lf (anZ (wX x))):=by
 refine Ox (R:=I1) ((((nL _ _).add 0 _ MD).add 1 _ MC).add 4 _ Mz) 99 [(0,sT)] [(0,sZ)] (λ((x:aM),_)=>lkB x) ?_ Tryz.func65;rintro⟨(x:aM),_⟩ r _ ⟨⟨h1,h2,h3,h4,h5,h6⟩,hr⟩;obtain rfl:=hr;have hl:∀{α:Type} (l:List α),l.reverse.length=l.length:=λl=>aak;have e1:x.zb.rm.length=x.names.length:=(hl x.rm).symm;have e2:x.zb.rl.length=x.lines.length:=(hl x.rl).symm;have e3:x.rs.length=x.snm.length:=(hl x.rs).symm;refine⟨⟨by omega,by omega,rfl,h1⟩,⟨by omega,rfl,by omega⟩,⟨by omega,by omega,rfl,by omega,?_,?_,by omega,h6⟩,?_⟩
 ·show x.rs.length=_;omega
 ·show(List.replicate _ false).length=x.prec.length;rw[adW];omega
 ·unfold wX;by_cases h:x.go.2.no=0
  ·rw[if_pos h];refine aH (decide_eq_true h) ⟨⟨by omega,by omega⟩,?_⟩;rw[aag];rfl
  ·rw[if_neg h];exact aP (decide_eq_false h) rfl
noncomputable def lkS:aM->gB:=shut wX
theorem WH (x:aM):lkS x=wX x:=congrFun (kY wX) x
theorem I3:fk Tryz.prog 65 [0] [(0,sT)] [(0,sZ)] λ((x:aM),_)=>.nd (Gf x) (.lf (anZ (lkS x))):=by
 unfold lkS;rw[kY];exact MF
noncomputable def C9:gb Tryz.prog:=ci Ue [⟨_,_,_,find_ok⟩,⟨_,_,_,mf⟩] [⟨_,_,_,_,_,jy⟩,⟨_,_,_,_,_,J3⟩,⟨_,_,_,_,_,I3⟩]
noncomputable abbrev cfn:=Tryz.f24
abbrev elC:List CS:=[.d .str,.d tI,.d tI,.d tI,.d (.list .str),.d (.list (.st 3)),.d (.list (.st 4)),.d tI,.d tI,.d .bool,.d (.list .limb),.d (.list .limb),.d tI,.d .str]
abbrev sEb:SS:=.box 30 elC
abbrev sGb:SS:=.box 48 [.d tI,.d tI]
abbrev sUb:SS:=.box 33 [.d .str,.d (.list (.st 1))]
abbrev Kw:=dZ elC
abbrev Kv:=dZ [.d tI,.d tI]
abbrev Vk:=dZ [.d .str,.d (.list (.st 1))]
def Vk.bs (u:Vk):List av:=u.2.1
noncomputable abbrev YS:Rg Tryz.prog cfn.ntmps:=yT (vE C9 cfn) [(19,adl 0 6)] []
abbrev c0L:List (Nat×SS):=[(4,sT),(1,sUb),(2,sEb),(3,sGb),(5,sI)]
abbrev P6:List (Nat×SS):=[(4,sT),(2,sEb),(3,sGb)]
def Y4 (x:aM) (u:Vk) (e:Kw) (g:Kv) (i:Int):LE c0L P6 []:=.back (x,u,e,g,i,())
def Ck (x:aM) (e:Kw) (g:Kv):LE c0L P6 []:=.out (x,e,g,())
def av.zero:av:=⟨⟨#[]⟩,⟨#[]⟩,[],0⟩
def c0T (x:aM) (u:Vk) (e:Kw) (g:Kv) (i:Int):T (LE c0L P6 []):=.br (decide (i<u.bs.length)) (.br (x.err==0) (.nd (0<=i/\i<u.bs.length) (.nd (E4 x (u.bs.getD i.toNat av.zero)) (.nd (bX (i+1)) (.lf (Y4 (.ofR (fv x.r (u.bs.getD i.toNat av.zero))) u e g (i+1)))))) (.lf (Ck x e g))) (.lf (Ck x e g))
abbrev c1L:List (Nat×SS):=[(4,sT),(2,sEb),(3,sGb),(50,PH),(51,sI),(52,sI)]
def OT (x:aM) (e:Kw) (g:Kv) (l:List ByteArray) (n i:Int):LE c1L P6 []:=.back (x,e,g,l,n,i,())
def Cj (x:aM) (e:Kw) (g:Kv):LE c1L P6 []:=.out (x,e,g,())
def c1T (x:aM) (e:Kw) (g:Kv) (l:List ByteArray) (n i:Int):T (LE c1L P6 []):=.br (decide (i<n)) (.nd (0<=i/\i<l.length) (.br (decide (Lib.idxOfS x.seen (l.reverse.getD i.toNat ⟨#[]⟩)<0)) (.nd ((0:Int)≠6) (.nd (bX (i+1)) (.lf (OT (x.note 6 0) e g l n (i+1))))) (.nd (bX (i+1)) (.lf (OT x e g l n (i+1)))))) (.lf (Cj x e g))
def gf (t:eh):Prop:=t.e.styl=(gj t.e.styl).map λn=>⟨n,[],[]⟩
theorem Um (x:aM):aM.ofR x.r=x:=(l9 x x.e x.er rfl rfl).symm
theorem FW (x:aM):gf x.r:=by
 show x.styl=(gj x.styl).map _;unfold aM.styl;rw[yC]
theorem wK {t:eh} (h:gf t):(aM.ofR t).r=t:=by
 obtain⟨e,seen,lines,names,f⟩:=t;obtain⟨t1,t2,t3,t4,t5,t6,t7,t8,t9,t10,t11,t12⟩:=e;have h:t7=(gj t7).map λn=>⟨n,[],[]⟩:=h;show(⟨⟨t1,t2,t3,t4,t5,t6.reverse.reverse,(gj t7).reverse.reverse.map λn=>⟨n,[],[]⟩,t8,t9,t10,t11,t12⟩,seen.reverse.reverse,lines.reverse.reverse,names.reverse.reverse,f⟩:eh)=_;simp only[aag];rw[<-h]
def grT (t t':eh):Prop:=t'.seen.length<=t.seen.length+1/\t'.e.cont.length<=t.e.cont.length+1/\t'.e.styl.length<=t.e.styl.length+1/\t'.names.length<=t.names.length+1/\t'.lines.length<=t.lines.length+1
def nz (t:eh):Prop:=t.names.length=t.e.styl.length/\t.lines.length=t.e.styl.length
theorem Md (a b:List ai):gj (a++b)=gj a++gj b:=adz
theorem EI (t:eh) (b:av) (y:dT) (h1:y.e.cont=t.e.cont) (h2:y.e.styl=t.e.styl):grT t (qM t b y)/\(gf t->gf (qM t b y))/\(nz t->nz (qM t b y)):=by
 unfold qM;simp only;have e1:(t.seen++[b.kind]).length=t.seen.length+1:=by simp
 split
 ·exact⟨⟨by simp,by simp[h1],by simp[h2],by simp,by simp⟩,λh=>by unfold gf at h ⊢;simp only[h2];exact h,λh=>by unfold nz at h ⊢;simp only[h2];exact h⟩
 split
 ·exact⟨⟨by simp,by simp[h1],by simp[h2],by simp,by simp⟩,λh=>by unfold gf at h ⊢;simp only[h2];exact h,λh=>by unfold nz at h ⊢;simp only[h2];exact h⟩
 split
 ·refine⟨⟨by simp,by simp[h1],by simp[h2],by simp,by simp⟩,λh=>?_,λh=>?_⟩
  ·unfold gf at h ⊢;simp only[h2,Md,adz];rw[<-h];rfl
  ·unfold nz at h ⊢;simp only[h2,aaj,aaA];omega
 split
 ·exact⟨⟨by simp[eh.note],by simp[h1,eh.note],by simp[h2,eh.note],by simp[eh.note],by simp[eh.note]⟩,λh=>by unfold gf eh.note at*;simp only[h2];exact h,λh=>by unfold nz eh.note at*;simp only[h2];exact h⟩
 ·exact⟨⟨by simp,by simp[h1],by simp[h2],by simp,by simp⟩,λh=>by unfold gf at h ⊢;simp only[h2];exact h,λh=>by unfold nz at h ⊢;simp only[h2];exact h⟩
theorem jh (t:eh) (b:av):grT t (fv t b)/\(gf t->gf (fv t b))/\(nz t->nz (fv t b)):=by
 obtain⟨r1,r2⟩:=lY b.kind b.fields (dT.start t b);exact EI t b _ r1 r2
def bOk (b:av):Prop:=b.name.size<=9223372036854775807/\b.fields.length<=1099511627776/\∀f∈b.fields,Jy b.kind f
def jL (t:eh) (k:Nat):Prop:=t.seen.length+k<=1099511627776/\t.e.cont.length+k<=1099511627776/\t.e.styl.length+k<=1099511627776/\t.names.length+k<=1099511627776/\t.lines.length+k<=1099511627776
theorem jL.blk {x:aM} {b:av} {k:Nat} (h:jL x.r k) (hb:bOk b):E4 x b:=by
 obtain⟨h1,h2,h3,h4,h5⟩:=h;have hlr:∀{α:Type} (l:List α),l.reverse.length=l.length:=λl=>aak;have l1:x.rn.length=x.r.seen.length:=(hlr x.rn).symm;have l2:x.rc.length=x.r.e.cont.length:=(hlr x.rc).symm;have l3:x.rs.length=x.r.e.styl.length:=by
  show _=(x.snm.map _).length;rw[abm];exact(hlr x.rs).symm
 have l4:x.rm.length=x.r.names.length:=(hlr x.rm).symm;have l5:x.rl.length=x.r.lines.length:=(hlr x.rl).symm;exact⟨hb.1,hb.2.1,hb.2.2,by omega,by omega,by omega,by omega,by omega⟩
theorem jL.next {t:eh} {b:av} {k:Nat} (h:jL t (k+1)):jL (fv t b) k:=by
 obtain⟨h1,h2,h3,h4,h5⟩:=h;obtain⟨g1,g2,g3,g4,g5⟩:=(jh t b).1;exact⟨by omega,by omega,by omega,by omega,by omega⟩
noncomputable def Y3:List av->aM->aM:=shut λl x=>.ofR (cj l x.r)
theorem EY (l:List av) (x:aM):Y3 l x=.ofR (cj l x.r):=by unfold Y3;rw[kY]
theorem Ca:eD YS 0 0 c0L P6 [] λ((x:aM),(u:Vk),(e:Kw),(g:Kv),(i:Int),_)=>.nd (0<=i/\i<=u.bs.length/\u.bs.length<=1099511627776/\(∀b∈u.bs,bOk b)/\jL x.r (u.bs.length-i.toNat)) (.lf (Ck (Y3 (u.bs.drop i.toNat) x) e g)):=by
 refine eI _ (nL _ _) 99 0 0 c0L P6 [] (λ((x:aM),(u:Vk),(e:Kw),(g:Kv),(i:Int),_)=>c0T x u e g i)
  (λ(_,(u:Vk),_,_,(i:Int),_)=>u.bs.length-i.toNat) ?_
 rintro⟨(x:aM),(u:Vk),(e:Kw),(g:Kv),(i:Int),_⟩ r _ ⟨⟨h0,h1,h2,h3,h4⟩,hr⟩;have hr:Ck (Y3 (u.bs.drop i.toNat) x) e g=r:=hr;rw[EY] at hr;obtain rfl:=hr;obtain⟨k,rfl⟩:∃k:Nat,i=k:=⟨i.toNat,by omega⟩;rw[aae] at h4 ⊢;show∃q,(c0T x u e g k).hit q/\_;unfold c0T;by_cases hk:k<u.bs.length
 ·rw[getD_drop av.zero hk,cj];have hb:=h3 (u.bs.getD k av.zero) (by rw[aac,aaa hk];exact aaG hk);by_cases he:x.err=0
  ·rw[if_neg (by simpa using(show x.r.f.no=0 from he))];refine⟨_,aH (decide_eq_true (by omega)) (aH (beq_iff_eq.2 he) ⟨⟨by omega,by omega⟩,h4.blk (by rw[aae];exact hb),⟨by omega,by omega⟩,rfl⟩),?_,⟨by omega,by omega,h2,h3,?_⟩,?_⟩
   ·show u.bs.length-(k+1)<u.bs.length-k;omega
   ·rw[aae];have hp:=(jh x.r (u.bs.getD k av.zero)).2.1 (FW x);rw[wK hp];have:u.bs.length-k=(u.bs.length-((k:Int)+1).toNat)+1:=by omega
    rw[this] at h4;exact h4.next
   ·rw[aae];have hp:=(jh x.r (u.bs.getD k av.zero)).2.1 (FW x);show Ck (Y3 (u.bs.drop (k+1)) (aM.ofR (fv x.r (u.bs.getD k av.zero)))) e g=_;rw[EY,wK hp]
  ·rw[if_pos (by exact he),Um];exact⟨_,aH (decide_eq_true (by omega)) (aP (beq_eq_false_iff_ne.2 he) rfl),rfl⟩
 ·rw[aaq (by omega),cj,Um];exact⟨_,aP (decide_eq_false (by omega)) rfl,rfl⟩
def Gb (seen:List ByteArray) (l:List ByteArray) (f:dH):dH:=l.foldl (λf k=>f.note (if cW seen k=true then 0 else 6) 0) f
noncomputable def Y2:aM->List ByteArray->aM:=shut λx l=>x.setE x.e (Gb x.seen l x.er)
theorem EX (x:aM) (l:List ByteArray):Y2 x l=x.setE x.e (Gb x.seen l x.er):=by unfold Y2;rw[kY]
theorem B8:eD YS 1 2 c1L P6 [] λ((x:aM),(e:Kw),(g:Kv),(l:List ByteArray),(n:Int),(i:Int),_)=>.nd (0<=i/\i<=l.length/\n=l.length) (.lf (Cj (Y2 x (l.reverse.drop i.toNat)) e g)):=by
 refine eI _ (nL _ _) 99 1 2 c1L P6 [] (λ((x:aM),(e:Kw),(g:Kv),(l:List ByteArray),(n:Int),(i:Int),_)=>c1T x e g l n i)
  (λ(_,_,_,(l:List ByteArray),_,(i:Int),_)=>l.length-i.toNat) ?_
 rintro⟨(x:aM),(e:Kw),(g:Kv),(l:List ByteArray),(n:Int),(i:Int),_⟩ r pZ ⟨⟨h0,h1,rfl⟩,hr⟩;have hr:Cj (Y2 x (l.reverse.drop i.toNat)) e g=r:=hr;rw[EX] at hr;obtain rfl:=hr;have hl:l.length<=9223372036854775807:=pZ.2.2.2.1;obtain⟨k,rfl⟩:∃k:Nat,i=k:=⟨i.toNat,by omega⟩;rw[aae];show∃q,(c1T x e g l l.length k).hit q/\_;unfold c1T;by_cases hk:k<l.length
 ·rw[getD_drop (⟨#[]⟩:ByteArray) (by rw[aak];exact hk)];have hd:l.length-(k+1)<l.length-k:=by omega
  have dI:bX ((k:Int)+1):=⟨by omega,by omega⟩;have key:∀no,(if cW x.seen (l.reverse.getD k ⟨#[]⟩)=true then(0:Int) else 6)=no->Cj (Y2 (x.note no 0) (l.reverse.drop (k+1))) e g=Cj (x.setE x.e (Gb x.seen (l.reverse.getD k ⟨#[]⟩::l.reverse.drop (k+1)) x.er)) e g:=by
   rintro no rfl;rw[EX,m8];rfl
  by_cases h:cW x.seen (l.reverse.getD k ⟨#[]⟩)=true
  ·refine⟨_,aH (decide_eq_true (by omega)) ⟨⟨by omega,by omega⟩,aP (by rw[aae];unfold cW at h;simpa using h) ⟨dI,rfl⟩⟩,hd,⟨by omega,by omega,rfl⟩,?_⟩;have:=key 0 (if_pos h);rw[sp] at this;exact this
  ·exact⟨_,aH (decide_eq_true (by omega)) ⟨⟨by omega,by omega⟩,aH (by rw[aae];unfold cW at h;simpa using h) ⟨by decide,dI,rfl⟩⟩,hd,⟨by omega,by omega,rfl⟩,key 6 (if_neg h)⟩
 ·rw[aaq (by rw[aak];omega)];exact⟨_,aP (decide_eq_false (by omega)) rfl,rfl⟩
def cp0 (t:ByteArray):aM:=(t,(0:Int),(0:Int),(0:Int),[],[],[],(0:Int),(0:Int),false,[],[],(0:Int),⟨#[]⟩,[],[],[],(0:Int),(0:Int),())
def Me:AV:=.val (.slice none 0 0)
def GY (f:Int×Int):XV:=.tup [(true,[.sym (.string ⟨#[]⟩),.sym (.int .i64 0),.sym (.int .i64 0),.sym (.int .i64 0),Me,Me,Me,.sym (.int .i64 0),.sym (.int .i64 0),.sym (.bool false),Me,Me,.sym (.int .i64 0),.sym (.string ⟨#[]⟩)]),(true,[.sym (.int .i64 f.1),.sym (.int .i64 f.2)])]
def gB.rc (x:gB):List ae:=x.2.2.2.2.2.1
def cpO (x:gB):XV:=.tup [(true,[.sym (.string x.1),.sym (.int .i64 x.2.1),.sym (.int .i64 x.2.2.1),.sym (.int .i64 x.2.2.2.1),.list .str x.2.2.2.2.1 false,.list (.st 3) x.rc.reverse !x.rc.isEmpty,.list (.st 4) x.z.2.1.reverse.reverse !x.z.2.1.reverse.isEmpty,.sym (.int .i64 x.2.2.2.2.2.2.2.1),.sym (.int .i64 x.2.2.2.2.2.2.2.2.1),.sym (.bool x.2.2.2.2.2.2.2.2.2.1),.list .limb x.2.2.2.2.2.2.2.2.2.2.1 false,.list .limb x.2.2.2.2.2.2.2.2.2.2.2.1 false,.sym (.int .i64 x.2.2.2.2.2.2.2.2.2.2.2.2.1),.sym (.string x.2.2.2.2.2.2.2.2.2.2.2.2.2.1)]),(true,[.sym (.int .i64 0),.sym (.int .i64 0)])]
noncomputable def cpN (x:gB):T XV:=.br (!(x.f.1==0)) (.lf (GY x.f)) (.nd (x.z.1=x.z.2.1.length) (.lf (cpO x)))
noncomputable def cpM (x:aM):T XV:=.br (x.err==0) (.nd (Gf x) (cpN (lkS x))) (.br (!(x.err==0)) (.lf (GY x.f)) .bad)
noncomputable def cpL (bs:List av) (x:aM):T XV:=.nd ((0:Int)<=0/\(0:Int)<=bs.length/\bs.length<=1099511627776/\(∀b∈bs,bOk b)/\jL x.r (bs.length-Int.toNat 0)) (.nd ((0:Int)<=0/\(0:Int)<=gU.reverse.length/\(gU.reverse.length:Int)=gU.reverse.length)
 (cpM (Y2 (Y3 (bs.drop (Int.toNat 0)) x) (gU.reverse.reverse.drop (Int.toNat 0)))))
noncomputable def cpB (s:bP):T XV:=.br (decide ((s.title.size:Int)>60)) (.nd ((0:Int)≠8) (cpL s.blocks ((cp0 s.title).note 8 0))) (.nd (s.title.size<=9223372036854775807) (.br (!eW s.title.data.toList) (.nd ((0:Int)≠8) (cpL s.blocks ((cp0 s.title).note 8 0))) (cpL s.blocks (cp0 s.title))))
def ZH (t:eh):Prop:=t.e.prec.length<=1099511627776/\∀p∈t.names,p.1.length<=1099511627776/\p.2.length<=1099511627776
def shL (y:dT):Prop:=y.e.prec.length<=1099511627776/\y.n0.length<=1099511627776/\y.n1.length<=1099511627776
theorem Jx (k:ByteArray) (e:aa) (f:ao) (h:e.prec.length<=1099511627776) (hf:f.vals.length<=1099511627776):(gA k e f).1.prec.length<=1099511627776:=by
 unfold gA;repeat (split;· first|exact h|exact hf)
 exact h
theorem Li (k:ByteArray) (y:dT) (f:ao) (h:shL y) (hf:f.vals.length<=1099511627776):shL (eA k y f):=by
 unfold eA;simp only;generalize (y.f.note (if cW (aJ k) f.key=true then 0 else 2) f.line).note (if cW y.known f.key=true then 3 else 0) f.line=f2;obtain⟨h1,h2,h3⟩:=h;split
 ·exact⟨h1,h2,h3⟩
 split
 ·exact⟨h1,h2,h3⟩
 split
 ·exact⟨h1,hf,h3⟩
 split
 ·exact⟨h1,h2,hf⟩
 ·exact⟨Jx k y.e f h1 hf,h2,h3⟩
theorem wC (k:ByteArray):∀(l:List ao) (y:dT),shL y->(∀f∈l,f.vals.length<=1099511627776)->shL (da k l y)
 | [],_,h,_=>h
 | f::l,y,h,hf=>by
  unfold da;split
  ·exact h
  ·exact wC k l _ (Li k y f h (hf f aah)) λg hg=>hf g (aap _ hg)
theorem J4 (t:eh) (b:av) (h:ZH t) (hb:bOk b):ZH (fv t b):=by
 obtain⟨g1,g2,g3⟩:=wC b.kind b.fields (dT.start t b) ⟨h.1,aaS _,aaS _⟩ λf hf=>(hb.2.2 f hf).1.2;unfold fv;generalize da b.kind b.fields (dT.start t b)=y at*;unfold qM;simp only;split
 ·exact⟨g1,h.2⟩
 split
 ·exact⟨g1,h.2⟩
 split
 ·refine⟨g1,λp hp=>?_⟩;rcases aaH.1 hp with hp|hp
  ·exact h.2 p hp
  ·obtain rfl:p=(y.n0,y.n1):=by simpa using hp
   exact⟨g2,g3⟩
 split
 ·exact⟨g1,h.2⟩
 ·exact⟨g1,h.2⟩
theorem kh:∀(l:List av) (t:eh),(∀b∈l,bOk b)->ZH t->gf t->nz t->jL t l.length->ZH (cj l t)/\gf (cj l t)/\nz (cj l t)/\jL (cj l t) 0
 | [],t,_,h1,h2,h3,h4=>⟨h1,h2,h3,h4⟩
 | b::l,t,hb,h1,h2,h3,h4=>by
  unfold cj;split
  ·obtain⟨q1,q2,q3,q4,q5⟩:=h4;exact⟨h1,h2,h3,by unfold jL;omega⟩
  ·obtain⟨_,g2,g3⟩:=jh t b;exact kh l _ (λc hc=>hb c (aap _ hc)) (J4 t b h1 (hb b aah)) (g2 h2) (g3 h3) h4.next
theorem wV (prec:List ByteArray) (line:Int):∀(l:List ByteArray) (u:List Bool) (a:List Int),cM prec line l u a=if(bK prec line l u a).2.no=0 then .ok (bK prec line l u a).1 else .error (bK prec line l u a).2
 | [],u,a=>by rw[cM,bK,if_pos rfl]
 | s::l,u,a=>by
  unfold cM bK;split
  ·rw[if_neg (by show¬(2:Int)=0;decide)]
  ·split
   ·rw[if_neg (by show¬(3:Int)=0;decide)]
   ·exact wV prec line l _ _
theorem wW (cn:List ByteArray) (line:Int):∀(l:List ByteArray) (a:List Int),oq cn line l a=if(dF cn line l a).2.no=0 then .ok (dF cn line l a).1 else .error (dF cn line l a).2
 | [],a=>by rw[oq,dF,if_pos rfl]
 | s::l,a=>by
  unfold oq dF;split
  ·rw[if_neg (by show¬(2:Int)=0;decide)]
  ·exact wW cn line l _
def qW (g:(List ai×List ByteArray×List Bool)×dH):Except dH (List ai):=if g.2.no=0 then(if g.1.2.2.contains false then .error ⟨6,0⟩ else .ok g.1.1) else .error g.2
theorem yJ (prec cn:List ByteArray):∀(vs:List (List ByteArray×List ByteArray)) (ls:List (Int×Int)) (ss done:List ai) (u:List Bool),vs.length=ss.length->ls.length=ss.length->iD prec cn vs ls ss u done=qW (om prec cn vs ls done (gj ss) u)
 | [],ls,ss,done,u,_,_=>by
  have e:iD prec cn [] ls ss u done=if u.contains false then .error ⟨6,0⟩ else .ok done:=by unfold iD;rfl
  rw[e];rfl
 | v::vs,[],ss,_,_,h1,h2=>by simp at h1 h2;omega
 | v::vs,ln::ls,[],_,_,h1,_=>by simp at h1
 | v::vs,ln::ls,s::ss,done,u,h1,h2=>by
  have ih:=λd u=>yJ prec cn vs ls ss d u (by simpa using h1) (by simpa using h2);unfold iD;rw[wV];unfold om;show _=qW (if(bK prec ln.1 v.1 u []).2.no=0 then if(dF cn ln.2 v.2 []).2.no=0 then om prec cn vs ls (done++[⟨s.name,(bK prec ln.1 v.1 u []).1.2,(dF cn ln.2 v.2 []).1⟩]) (gj ss) (bK prec ln.1 v.1 u []).1.1 else((done++[⟨s.name,(bK prec ln.1 v.1 u []).1.2,(dF cn ln.2 v.2 []).1⟩],gj ss,(bK prec ln.1 v.1 u []).1.1),(dF cn ln.2 v.2 []).2) else((done++[⟨s.name,(bK prec ln.1 v.1 u []).1.2,[]⟩],gj ss,(bK prec ln.1 v.1 u []).1.1),(bK prec ln.1 v.1 u []).2));by_cases e1:(bK prec ln.1 v.1 u []).2.no=0
  ·rw[if_pos e1,if_pos e1];simp only;rw[wW];by_cases e2:(dF cn ln.2 v.2 []).2.no=0
   ·rw[if_pos e2,if_pos e2];exact ih _ _
   ·rw[if_neg e2,if_neg e2];unfold qW;rw[if_neg (by exact e2)]
  ·rw[if_neg e1,if_neg e1];unfold qW;rw[if_neg (by exact e1)]
theorem Ba (prec cn:List ByteArray):∀(vs:List (List ByteArray×List ByteArray)) (ls:List (Int×Int)) (done:List ai) (rest:List ByteArray) (u:List Bool),(om prec cn vs ls done rest u).2.no=0->(om prec cn vs ls done rest u).1.1.length=done.length+vs.length
 | [],_,_,_,_,_=>rfl
 | v::vs,ls,done,rest,u,h=>by
  unfold om at h ⊢;by_cases e1:(bK prec (ls.getD 0 (0,0)).1 v.1 u []).2.no=0
  ·rw[if_pos e1] at h ⊢;by_cases e2:(dF cn (ls.getD 0 (0,0)).2 v.2 []).2.no=0
   ·rw[if_pos e2] at h ⊢;rw[Ba prec cn vs _ _ _ _ h,aaj,aaA,aar];omega
   ·rw[if_neg e2] at h;exact absurd h e2
  ·rw[if_neg e1] at h;exact absurd h e1
def EO (e:aa):XV:=.tup [(true,jV (.st 5) e),(true,[.sym (.int .i64 0),.sym (.int .i64 0)])]
def OG (r:aa×dH):T XV:=.br (decide (r.2.no=0)) (.lf (EO r.1)) (.lf (GY (r.2.no,r.2.line)))
def Dz (s:bP):Prop:=s.title.size<=9223372036854775807/\s.blocks.length<=1099511627776/\∀b∈s.blocks,bOk b
theorem Vu (T:eh) (d:List ai):KJ (cpO ((aM.ofR T).zb.withZ d []))=EO { T.e with styl:=d }:=by
 show XV.tup [(true,[AV.sym (.string T.e.title),_,_,_,.list .str T.e.prec false,.list (.st 3) T.e.cont.reverse.reverse false,.list (.st 4) d.reverse.reverse false,_,_,_,_,_,_,_]),_]=_;rw[aag,aag];rfl
theorem JR (x:gB) (d:List ai) (r r':List ByteArray) (p:Int×Int):cpO ((x.withZ d r).setF p)=cpO (x.withZ d r'):=rfl
theorem Tc {T:eh} (hf:T.f.no=0) (hl:nz T):∃q,(cpN (lkS (.ofR T))).hit q/\KJ q=(match jP T with|.ok l=>EO { T.e with styl:=l }|.error e=>GY (e.no,e.line)):=by
 have hgo:(aM.ofR T).go=om T.e.prec (T.e.cont.map λc:ae=>c.name) T.names T.lines [] (gj T.e.styl) (List.replicate T.e.prec.length false):=by
  show om T.e.prec (((T.e.cont.reverse.reverse.drop 0).map λc:ae=>c.name).reverse++[]).reverse (T.names.reverse.reverse.drop 0) (T.lines.reverse.reverse.drop 0) [] (gj T.e.styl).reverse.reverse (List.replicate T.e.prec.length false).reverse=_;simp only[aag,acF,ack,List.reverse_replicate]
 have hR:jP T=qW (aM.ofR T).go:=by
  rw[hgo];exact yJ _ _ _ _ _ _ _ hl.1 hl.2
 have bm:(aM.ofR T).go.2.no=0->(aM.ofR T).go.1.1.length=T.names.length:=λh=>by
  rw[hgo] at h ⊢;rw[Ba _ _ _ _ _ _ _ h];simp
 have aho:(aM.ofR T).zb.z.1=T.names.length:=by
  show(gj T.e.styl).reverse.length=_;rw[aak];unfold gj;rw[abm];exact hl.1.symm
 have Jo:∀(d:List ai) (r:List ByteArray),((aM.ofR T).zb.withZ d r).f.1=0:=λd r=>hf;rw[hR,WH];unfold wX qW;generalize (aM.ofR T).go=g at*;obtain⟨⟨d,r,u⟩,e⟩:=g;simp only at bm ⊢;unfold cpN;by_cases he:e.no=0
 ·rw[if_pos he,if_pos he];by_cases hu:u.contains false=true
  ·rw[if_pos hu,if_pos hu];refine⟨_,aH ?_ rfl,?_⟩
   ·show(!((nt _ 6 0).1==0))=true;rw[IT 0 (Jo d r) (by decide)];rfl
   ·show KJ (GY (nt _ 6 0))=_;rw[IT 0 (Jo d r) (by decide)];rfl
  ·rw[if_neg hu,if_neg hu];refine⟨_,aP ?_ ⟨?_,rfl⟩,?_⟩
   ·show(!((nt _ 0 0).1==0))=false;rw[L5,Jo d r];rfl
   ·show(aM.ofR T).zb.z.1=d.length;rw[aho,bm he]
   ·exact(congrArg KJ (JR (aM.ofR T).zb d r [] _)).trans (Vu T d)
 ·rw[if_neg he,if_neg he];refine⟨_,aH ?_ rfl,?_⟩
  ·show(!((nt _ e.no e.line).1==0))=true;rw[IT _ (Jo d r) he];simpa using he
  ·show KJ (GY (nt _ e.no e.line))=_;rw[IT _ (Jo d r) he];rfl
theorem Td {T:eh} (hp:gf T) (hl:nz T) (hs:ZH T) (hr:jL T 0):∃q,(cpM (.ofR T)).hit q/\KJ q=(if T.f.no≠0 then GY (T.f.no,T.f.line) else match jP T with|.ok l=>EO { T.e with styl:=l }|.error e=>GY (e.no,e.line)):=by
 have hR:(aM.ofR T).r=T:=wK hp;unfold cpM;by_cases hf:T.f.no=0
 ·rw[if_neg (by simpa using hf)];obtain⟨q,h1,h2⟩:=Tc hf hl;refine⟨q,aH (beq_iff_eq.2 hf) ⟨?_,h1⟩,h2⟩;obtain⟨q1,q2,q3,q4,q5⟩:=hr;have e1:(aM.ofR T).cont=T.e.cont:=congrArg (λt:eh=>t.e.cont) hR;have e2:(aM.ofR T).lines=T.lines:=congrArg (λt:eh=>t.lines) hR;have e3:(aM.ofR T).names=T.names:=congrArg (λt:eh=>t.names) hR;have e4:(aM.ofR T).snm.length=T.e.styl.length:=by
   show(gj T.e.styl).reverse.reverse.length=_;rw[aag];unfold gj;rw[abm]
  unfold Gf;rw[e1,e2,e3,e4];exact⟨by omega,hs.1,by rw[hl.1,hl.2],hl.1.symm,by omega,hs.2⟩
 ·rw[if_pos hf];exact⟨_,aP (beq_eq_false_iff_ne.2 hf) (aH (by show(!(T.f.no==0))=true;simpa using hf) rfl),rfl⟩
theorem Cb (s:bP):fO s=if(bQ s).f.no≠0 then(aa.zero,(bQ s).f) else match jP (bQ s) with|.error e=>(aa.zero,e)|.ok l=>({ (bQ s).e with styl:=l },⟨0,0⟩):=rfl
theorem I4 {T:eh} {e:dH} (hl:nz T) (h:jP T=.error e):e.no≠0:=by
 have hR:jP T=qW (om T.e.prec (T.e.cont.map λc:ae=>c.name) T.names T.lines [] (gj T.e.styl) (List.replicate T.e.prec.length false)):=yJ _ _ _ _ _ _ _ hl.1 hl.2;rw[hR] at h;unfold qW at h;split at h
 ·split at h
  ·injection h with h;rw[<-h];decide
  ·cases h
 ·rename_i hn;injection h with h;rw[<-h];exact hn
theorem Cc:au Tryz.prog 24 true (aD [(0,.st 2)] λ((s:bP),_)=>.nd (Dz s) (OG (fO s))):=by
 refine au.imp (l0:=[(0,.st 2)]) (F:=λ((s:bP),_)=>cpB s) (sk (R:=YS) (((nL _ _).add 0 _ Ca).add 1 _ B8) true 99 [(0,.st 2)] (λ((s:bP),_)=>cpB s) (λx r _ h=>⟨h,.inl rfl⟩) Tryz.func24) ?_;rintro⟨(s:bP),_⟩ r ⟨⟨h1,h2,h3⟩,hr⟩;have hr:(OG (fO s)).hit r:=hr;have dV:∀no,no=(if 60<s.title.size\/eW s.title.data.toList=false then(8:Int) else 0)->∃q,(cpL s.blocks ((cp0 s.title).note no 0)).hit q/\KJ q=(if(bQ s).f.no≠0 then GY ((bQ s).f.no,(bQ s).f.line) else match jP (bQ s) with|.ok l=>EO { (bQ s).e with styl:=l }|.error e=>GY (e.no,e.line)):=by
  rintro no rfl;have h0:(cp0 s.title).note (if 60<s.title.size\/eW s.title.data.toList=false then(8:Int) else 0) 0=.ofR (eh.start s.title):=by
   rw[mY,l9 _ _ _ rfl rfl];rfl
  have Nq:gf (eh.start s.title):=rfl;have zK:jL (eh.start s.title) s.blocks.length:=⟨by show 0+_<=_;omega,by show 0+_<=_;omega,by show 0+_<=_;omega,by show 0+_<=_;omega,by show 0+_<=_;omega⟩;obtain⟨f1,f2,f3,f4⟩:=kh s.blocks (eh.start s.title) h3 ⟨aaS _,λp hp=>by cases hp⟩ Nq ⟨rfl,rfl⟩ zK;rw[h0];have NY:Y3 (s.blocks.drop (Int.toNat 0)) (.ofR (eh.start s.title))=.ofR (cj s.blocks (eh.start s.title)):=by
   rw[EY,wK Nq];rfl
  have hb:bQ s={ cj s.blocks (eh.start s.title) with f:=Gb (cj s.blocks (eh.start s.title)).seen gU (cj s.blocks (eh.start s.title)).f }:=rfl;have hc1:Y2 (.ofR (cj s.blocks (eh.start s.title))) (gU.reverse.reverse.drop (Int.toNat 0))=.ofR (bQ s):=by
   have hR:=wK f2;rw[EX,l9 _ _ _ rfl rfl,aag,hb];generalize cj s.blocks (eh.start s.title)=T at*;have e1:(aM.ofR T).e=T.e:=congrArg eh.e hR;have e2:(aM.ofR T).seen=T.seen:=congrArg eh.seen hR;have e3:(aM.ofR T).lines=T.lines:=congrArg eh.lines hR;have e4:(aM.ofR T).names=T.names:=congrArg eh.names hR;have e5:(aM.ofR T).er=T.f:=rfl;rw[e1,e2,e3,e4,e5];rfl
  have yZ:gf (bQ s)/\nz (bQ s)/\ZH (bQ s)/\jL (bQ s) 0:=by rw[hb];exact⟨f2,f3,f1,f4⟩
  obtain⟨q,q1,q2⟩:=Td yZ.1 yZ.2.1 yZ.2.2.1 yZ.2.2.2;refine⟨q,⟨⟨by omega,by omega,h2,h3,?_⟩,⟨by decide,by decide,rfl⟩,?_⟩,q2⟩
  ·rw[wK Nq];exact zK
  ·rw[NY,hc1];exact q1
 have bm:nz (bQ s):=by
  have zK:jL (eh.start s.title) s.blocks.length:=⟨by show 0+_<=_;omega,by show 0+_<=_;omega,by show 0+_<=_;omega,by show 0+_<=_;omega,by show 0+_<=_;omega⟩;exact(kh s.blocks (eh.start s.title) h3 ⟨aaS _,λp hp=>by cases hp⟩ rfl ⟨rfl,rfl⟩ zK).2.2.1
 have aip:(if(bQ s).f.no≠0 then GY ((bQ s).f.no,(bQ s).f.line) else match jP (bQ s) with|.ok l=>EO { (bQ s).e with styl:=l }|.error e=>GY (e.no,e.line))=r:=by
  rw[Cb] at hr;unfold OG at hr;by_cases h0:(bQ s).f.no≠0
  ·rw[if_pos h0] at hr ⊢;exact hr.2 (decide_eq_false h0)
  ·rw[if_neg h0] at hr ⊢;cases hL:jP (bQ s) with
   | ok l=>rw[hL] at hr;exact hr.1 (decide_eq_true rfl)
   | error e=>rw[hL] at hr;exact hr.2 (decide_eq_false (I4 bm hL))
 have fin:∀{q},(cpB s).hit q->KJ q=(if(bQ s).f.no≠0 then GY ((bQ s).f.no,(bQ s).f.line) else match jP (bQ s) with|.ok l=>EO { (bQ s).e with styl:=l }|.error e=>GY (e.no,e.line))->∃q,(cpB s).hit q/\∀(w:World) (S:Nat->Prop) (v:Value),XR [] w S q v->XR [] w S r v:=λ{q} h1 h2=>⟨q,h1,λw S v hv=>by rw[<-aip,<-h2];exact Dh hv⟩;by_cases iL:60<s.title.size
 ·obtain⟨q,q1,q2⟩:=dV 8 (by rw[if_pos (.inl iL)]);exact fin (aH (decide_eq_true (by omega)) ⟨by decide,q1⟩) q2
 ·by_cases wi:eW s.title.data.toList=false
  ·obtain⟨q,q1,q2⟩:=dV 8 (by rw[if_pos (.inr wi)]);exact fin (aP (decide_eq_false (by omega)) ⟨h1,aH (by rw[wi];rfl) ⟨by decide,q1⟩⟩) q2
  ·obtain⟨q,q1,q2⟩:=dV 0 (by rw[if_neg λh=>h.elim iL wi]);rw[sp] at q1;exact fin (aP (decide_eq_false (by omega)) ⟨h1,aP (by simpa using wi) q1⟩) q2
end Go.Proofs.YtdbpbfglhbiadaaGreatDoor
